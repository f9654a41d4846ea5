import Derived.Test.YtbbmkcioplbhbaaGreatDoorLink1
set_option linter.unusedVariables false
/- What the functions compute, by gen.py. -/
namespace Go.Proofs.YtbbmkcioplbhbaaGreatDoor
noncomputable section
open Go.Abs Go.Proofs
abbrev shT(b:Base):Sh:=⟨true,.base b⟩
abbrev shF(b:Base):Sh:=⟨false,.base b⟩
abbrev slF(b:Base):Sh:=⟨false,.list (.base b)⟩
abbrev siz{α:Type}[SizeOf α](x:α):Nat:=SizeOf.sizeOf x
abbrev w64(n:Int):Int:=IntKind.i64.wrap n
abbrev w8(n:Int):Int:=IntKind.u8.wrap n
def pW:Isp:={ fid:=233,t:=.base .str,fn:=jc }
def Xr(a:List Int)(b:Int):Option (Int):=bif (decide ((w64 (b-(a.length:Int)))<0))then some ((-1))else some (w64 (b-(a.length:Int)))
def aiv:Fsp:=⟨24,[slF .int,shF .int],[shF .int],true,false,fun x=>Xr x.1 x.2⟩
def Ph(a:ah)(b:Int):Option (Int):=bif (decide ((w64 (b-(a.name.length:Int)))<0))then some ((-1))else bif (decide ((w64 ((w64 (b-(a.name.length:Int)))-(a.code.length:Int)))<0))then some ((-1))else some (w64 ((w64 (b-(a.name.length:Int)))-(a.code.length:Int)))
def aix:Fsp:=⟨68,[shT .cell,shF .int],[shF .int],true,false,fun x=>Ph x.1 x.2⟩
def Xt(a:dP)(b:Int):Option (Int):=(Ph a.cell b).bind fun c=>bif (decide (c<0))then some ((-1))else some (c)
def aiw:Fsp:=⟨25,[shT .edit,shF .int],[shF .int],true,false,fun x=>Xt x.1 x.2⟩
def JG(a:List Str)(b:Int):Option (Int):=bif (decide ((w64 (b-(a.length:Int)))<0))then some ((-1))else au (fun(⟨e,f,g⟩:(List Str)×Int×Int)=>bif (decide (g<(e.length:Int)))then (idx e g).bind fun d=>bif (decide ((w64 (f-(d.length:Int)))<0))then some (.inr ((-1)))else some (.inl (e,w64 (f-(d.length:Int)),w64 (g+1)))else some (.inr (f))) (a,w64 (b-(a.length:Int)),0)
def ZQ:Fsp:=⟨158,[slF .str,shF .int],[shF .int],true,false,fun x=>JG x.1 x.2⟩
def JI(a:List bQ)(b:Int):Option (Int):=bif (decide ((w64 (b-(a.length:Int)))<0))then some ((-1))else some (w64 (b-(a.length:Int)))
def ZT:Fsp:=⟨246,[slF .origin,shF .int],[shF .int],true,false,fun x=>JI x.1 x.2⟩
def ZR(a:bD)(b:Int):Option (Int):=(Xr a.cells b).bind fun c=>bif (decide (c<0))then some ((-1))else (JI a.orig c).bind fun d=>bif (decide (d<0))then some ((-1))else some (d)
def ale:Fsp:=⟨198,[shT .row,shF .int],[shF .int],true,false,fun x=>ZR x.1 x.2⟩
def acS(a:List bD)(b:Int):Option (Int):=bif (decide ((w64 (b-(a.length:Int)))<0))then some ((-1))else au (fun(⟨f,g,h⟩:(List bD)×Int×Int)=>bif (decide (h<(f.length:Int)))then (idx f h).bind fun e=>(ZR e g).bind fun d=>bif (decide (d<0))then some (.inr ((-1)))else some (.inl (f,d,w64 (h+1)))else some (.inr (g))) (a,w64 (b-(a.length:Int)),0)
def air:Fsp:=⟨159,[slF .row,shF .int],[shF .int],true,false,fun x=>acS x.1 x.2⟩
def O8(rszValue:aF->Int->Option (Int))(rszValueS:(List aF)->Int->Option (Int))(a:aF)(b:Int):Option (Int):=bif (decide ((w64 (b-(a.text.length:Int)))<0))then some ((-1))else (rszValueS a.list (w64 (b-(a.text.length:Int)))).bind fun c=>bif (decide (c<0))then some ((-1))else (JG a.columns c).bind fun d=>bif (decide (d<0))then some ((-1))else (acS a.rows d).bind fun e=>bif (decide (e<0))then some ((-1))else some (e)
def agp(rszValue:aF->Int->Option (Int))(rszValueS:(List aF)->Int->Option (Int))(a:List aF)(b:Int):Option (Int):=bif (decide ((w64 (b-(a.length:Int)))<0))then some ((-1))else au (fun(⟨f,g,h⟩:(List aF)×Int×Int)=>bif (decide (h<(f.length:Int)))then (idx f h).bind fun e=>(rszValue (dD e) g).bind fun d=>bif (decide (d<0))then some (.inr ((-1)))else some (.inl (f,d,w64 (h+1)))else some (.inr (g))) (a,w64 (b-(a.length:Int)),0)
def jM:Nat->(aF->Int->Option (Int))×((List aF)->Int->Option (Int))
 | 0=>(fun _ _=>none,fun _ _=>none)
 | n+1=>(O8 (jM n).1 (jM n).2,agp (jM n).1 (jM n).2)
def Xm(a:aF)(b:Int):Option (Int):=(jM (siz a+1)).1 a b
def agq:Fsp:=⟨118,[shT .val,shF .int],[shF .int],true,false,fun x=>Xm x.1 x.2⟩
def O7(n:Nat):Fsp:=⟨118,[shT .val,shF .int],[shF .int],true,false,fun x=>(jM n).1 x.1 x.2⟩
def ain(a:List aF)(b:Int):Option (Int):=(jM (siz a+1)).2 a b
def acR:Fsp:=⟨157,[slF .val,shF .int],[shF .int],true,false,fun x=>ain x.1 x.2⟩
def LV(n:Nat):Fsp:=⟨157,[slF .val,shF .int],[shF .int],true,false,fun x=>(jM n).2 x.1 x.2⟩
def JH(a:aO)(b:Int):Option (Int):=bif (decide ((w64 (b-(a.text.length:Int)))<0))then some ((-1))else (Xm (dD a.result) (w64 (b-(a.text.length:Int)))).bind fun c=>bif (decide (c<0))then some ((-1))else some (c)
def ais:Fsp:=⟨69,[shT .read,shF .int],[shF .int],true,false,fun x=>JH x.1 x.2⟩
def DY(a:List aO)(b:Int):Option (Int):=bif (decide ((w64 (b-(a.length:Int)))<0))then some ((-1))else au (fun(⟨f,g,h⟩:(List aO)×Int×Int)=>bif (decide (h<(f.length:Int)))then (idx f h).bind fun e=>(JH (iZ e) g).bind fun d=>bif (decide (d<0))then some (.inr ((-1)))else some (.inl (f,d,w64 (h+1)))else some (.inr (g))) (a,w64 (b-(a.length:Int)),0)
def agu:Fsp:=⟨26,[slF .read,shF .int],[shF .int],true,false,fun x=>DY x.1 x.2⟩
def Xp(a:GOp)(b:Int):Option (Int):=(Xr a.seen b).bind fun d=>bif (decide (d<0))then some ((-1))else (Xt a.edit d).bind fun c=>bif (decide (c<0))then some ((-1))else bif (decide ((w64 (c-(a.src.length:Int)))<0))then some ((-1))else bif (decide ((w64 ((w64 (c-(a.src.length:Int)))-(a.dst.length:Int)))<0))then some ((-1))else (DY a.reads (w64 ((w64 (c-(a.src.length:Int)))-(a.dst.length:Int)))).bind fun e=>bif (decide (e<0))then some ((-1))else some (e)
def apI:Fsp:=⟨6,[shT .op,shF .int],[shF .int],true,false,fun x=>Xp x.1 x.2⟩
def O9(a:List GOp)(b:Int):Option (Int):=bif (decide ((w64 (b-(a.length:Int)))<0))then some ((-1))else au (fun(⟨f,g,h⟩:(List GOp)×Int×Int)=>bif (decide (h<(f.length:Int)))then (idx f h).bind fun e=>(Xp e g).bind fun d=>bif (decide (d<0))then some (.inr ((-1)))else some (.inl (f,d,w64 (h+1)))else some (.inr (g))) (a,w64 (b-(a.length:Int)),0)
def alh:Fsp:=⟨7,[slF .op,shF .int],[shF .int],true,false,fun x=>O9 x.1 x.2⟩
def afe(a:List ah)(b:Int):Option (Int):=bif (decide ((w64 (b-(a.length:Int)))<0))then some ((-1))else au (fun(⟨f,g,h⟩:(List ah)×Int×Int)=>bif (decide (h<(f.length:Int)))then (idx f h).bind fun e=>(Ph e g).bind fun d=>bif (decide (d<0))then some (.inr ((-1)))else some (.inl (f,d,w64 (h+1)))else some (.inr (g))) (a,w64 (b-(a.length:Int)),0)
def agw:Fsp:=⟨66,[slF .cell,shF .int],[shF .int],true,false,fun x=>afe x.1 x.2⟩
def Pe(a:ak)(b:Int):Option (Int):=(afe a.cells b).bind fun c=>bif (decide (c<0))then some ((-1))else some (c)
def Xq:Fsp:=⟨22,[shT .notebook,shF .int],[shF .int],true,false,fun x=>Pe x.1 x.2⟩
def aip(a:aJ)(b:Int):Option (Int):=(DY a.reads b).bind fun c=>bif (decide (c<0))then some ((-1))else some (c)
def aio:Fsp:=⟨67,[shT .tape,shF .int],[shF .int],true,false,fun x=>aip x.1 x.2⟩
def afd(a:List aJ)(b:Int):Option (Int):=bif (decide ((w64 (b-(a.length:Int)))<0))then some ((-1))else au (fun(⟨f,g,h⟩:(List aJ)×Int×Int)=>bif (decide (h<(f.length:Int)))then (idx f h).bind fun e=>(aip e g).bind fun d=>bif (decide (d<0))then some (.inr ((-1)))else some (.inl (f,d,w64 (h+1)))else some (.inr (g))) (a,w64 (b-(a.length:Int)),0)
def agr:Fsp:=⟨23,[slF .tape,shF .int],[shF .int],true,false,fun x=>afd x.1 x.2⟩
def Pg(a:aN)(b:Int):Option (Int):=(Pe a.notebook b).bind fun c=>bif (decide (c<0))then some ((-1))else (afd a.tapes c).bind fun d=>bif (decide (d<0))then some ((-1))else (O9 a.renames d).bind fun e=>bif (decide (e<0))then some ((-1))else some (e)
def Xu:Fsp:=⟨5,[shT .document,shF .int],[shF .int],true,false,fun x=>Pg x.1 x.2⟩
def iY(a:ak):Option (ak):=(gd (0+a.cells.length)).bind fun _=>some (ak.mk ([]++a.cells))
def ado:Fsp:=⟨70,[shT .notebook],[shT .notebook],true,false,fun x=>iY x⟩
def JS(a:bD):Option (bD):=(gd (0+a.cells.length)).bind fun _=>(gd (0+a.orig.length)).bind fun _=>some (bD.mk ([]++a.cells) ([]++a.orig))
def aiK:Fsp:=⟨220,[shT .row],[shT .row],true,false,fun x=>JS x⟩
def BI(rsL3Copy:aF->Option (aF))(a:aF):Option (aF):=(gd (0+a.columns.length)).bind fun _=>au (fun(⟨h,i,j,k,l,m,o,p,q,s,t,u,v,w,x,y,z,A,B,C,D,E⟩:Int×Int×Int×Str×(List aF)×(List Str)×(List bD)×Int×Int×Int×Str×(List aF)×(List Str)×(List bD)×Int×Int×Int×Str×(List aF)×(List Str)×(List bD)×Int)=>bif (decide (E<(l.length:Int)))then (idx l E).bind fun f=>(rsL3Copy (dD f)).bind fun d=>(gd (B.length+[dD d].length)).bind fun _=>some (.inl (h,i,j,k,l,m,o,p,q,s,t,u,v,w,x,y,z,A,B++[dD d],C,D,w64 (E+1)))else (au (fun(⟨b,F,G,H,I,J,K,L,M,N,O,P,Q,R,S,T,U,V,W,X,Y,Z⟩:Int×Int×Int×Str×(List aF)×(List Str)×(List bD)×Int×Int×Int×Str×(List aF)×(List Str)×(List bD)×Int×Int×Int×Str×(List aF)×(List Str)×(List bD)×Int)=>bif (decide (Z<(K.length:Int)))then (idx K Z).bind fun g=>(JS g).bind fun e=>(gd (Y.length+[e].length)).bind fun _=>some (.inl (b,F,G,H,I,J,K,L,M,N,O,P,Q,R,S,T,U,V,W,X,Y++[e],w64 (Z+1)))else some (.inr (aF.mk S T U V W X Y))) (h,i,j,k,l,m,o,p,q,s,t,u,v,w,x,y,z,A,B,C,D,0)).bind fun r=>some (.inr r)) (a.kind,a.n,a.step,a.text,a.list,a.columns,a.rows,0,0,0,[],[],[],[],a.kind,a.n,a.step,a.text,[],[]++a.columns,[],0)
def xk:Nat->(aF->Option (aF))
 | 0=>fun _=>none
 | n+1=>BI (xk n)
def D9(a:aF):Option (aF):=(xk (siz a+1)) a
def agJ:Fsp:=⟨173,[shT .val],[shT .val],true,false,fun x=>D9 x⟩
def PK(n:Nat):Fsp:=⟨173,[shT .val],[shT .val],true,false,fun x=>(xk n) x⟩
def BN(a:aO):Option (aO):=(D9 (dD a.result)).bind fun b=>some (aO.mk a.kind a.n a.time a.text (dD b))
def adq:Fsp:=⟨132,[shT .read],[shT .read],true,false,fun x=>BN x⟩
def sU(a:List aO):Option ((List aO)):=au (fun(⟨e,f,g⟩:(List aO)×(List aO)×Int)=>bif (decide (g<(e.length:Int)))then (idx e g).bind fun d=>(BN (iZ d)).bind fun c=>(gd (f.length+[iZ c].length)).bind fun _=>some (.inl (e,f++[iZ c],w64 (g+1)))else some (.inr (f))) (a,[],0)
def aao:Fsp:=⟨81,[slF .read],[slF .read],true,false,fun x=>sU x⟩
def Ii(a:List aJ):Option ((List aJ)):=au (fun(⟨g,h,i⟩:(List aJ)×(List aJ)×Int)=>bif (decide (i<(g.length:Int)))then (idx g i).bind fun c=>(idx g i).bind fun d=>(idx g i).bind fun f=>(sU f.reads).bind fun e=>(gd (h.length+[aJ.mk c.cell d.version e].length)).bind fun _=>some (.inl (g,h++[aJ.mk c.cell d.version e],w64 (i+1)))else some (.inr (h))) (a,[],0)
def adk:Fsp:=⟨71,[slF .tape],[slF .tape],true,false,fun x=>Ii x⟩
def BG(a:GOp):Option (GOp):=(gd (0+a.seen.length)).bind fun _=>(sU a.reads).bind fun b=>some (GOp.mk a.time a.by_ a.kind ([]++a.seen) a.edit a.src a.dst a.cell a.version b)
def adg:Fsp:=⟨33,[shT .op],[shT .op],true,false,fun x=>BG x⟩
def Om(a:List GOp):Option ((List GOp)):=au (fun(⟨e,f,g⟩:(List GOp)×(List GOp)×Int)=>bif (decide (g<(e.length:Int)))then (idx e g).bind fun d=>(BG d).bind fun c=>(gd (f.length+[c].length)).bind fun _=>some (.inl (e,f++[c],w64 (g+1)))else some (.inr (f))) (a,[],0)
def agH:Fsp:=⟨72,[slF .op],[slF .op],true,false,fun x=>Om x⟩
def Ig(a:aN):Option (aN):=(iY a.notebook).bind fun b=>(Ii a.tapes).bind fun c=>(Om a.renames).bind fun d=>some (aN.mk b c d)
def ada:Fsp:=⟨27,[shT .document],[shT .document],true,false,fun x=>Ig x⟩
def wZ(a:Int):Option (Bool):=bif (decide (a>=97))then some ((decide (a<=122)))else some (false)
def aaf:Fsp:=⟨247,[shF .u8],[shF .bool],true,false,fun x=>wZ x⟩
def xg(a:Int):Option (Bool):=bif (decide (a>=48))then some ((decide (a<=57)))else some (false)
def ac9:Fsp:=⟨248,[shF .u8],[shF .bool],true,false,fun x=>xg x⟩
def fV(a:Int):Option (Str):=bif (a==0)then some ([48])else au (fun(⟨c,d,e⟩:Int×Bool×Str)=>bif (c != 0)then bif (decide ((c.tmod 10)<0))then (gd ((bytesOf [w8 (w64 (48+(w64 (0-(c.tmod 10)))))]).length+e.length)).bind fun _=>some (.inl (w64 (c.tdiv 10),d,(bytesOf [w8 (w64 (48+(w64 (0-(c.tmod 10)))))])++e))else (gd ((bytesOf [w8 (w64 (48+(c.tmod 10)))]).length+e.length)).bind fun _=>some (.inl (w64 (c.tdiv 10),d,(bytesOf [w8 (w64 (48+(c.tmod 10)))])++e))else (bif d then (gd ([45].length+e.length)).bind fun _=>some ([45]++e)else some (e)).bind fun r=>some (.inr r)) (a,(decide (a<0)),[])
def XU:Fsp:=⟨209,[shF .int],[shF .str],true,false,fun x=>fV x⟩
def Ec(a:Str)(b:Int):Option (Int×Bool):=bif (decide ((a.length:Int)>0))then (idx a 0).bind fun f=>bif ((f.toNat:Int)==45)then (eff.cutL a (some 1) none).bind fun g=>bif (decide ((g.length:Int)<1))then some (0,false)else bif (decide ((g.length:Int)>b))then some (0,false)else au (fun(⟨x,y,z,A,B⟩:Str×Bool×Str×Int×Int)=>bif (decide (B<(z.length:Int)))then (idx z B).bind fun s=>bif (decide ((s.toNat:Int)<48))then some (.inr (0,false))else (idx z B).bind fun t=>bif (decide ((t.toNat:Int)>57))then some (.inr (0,false))else (idx z B).bind fun u=>some (.inl (x,y,z,w64 ((w64 (10*A))+(w64 (w8 ((u.toNat:Int)-48)))),w64 (B+1)))else (bif y then (fV (w64 (0-A))).bind fun v=>bif (!(v==x))then some (0,false)else some (w64 (0-A),true)else (fV A).bind fun w=>bif (!(w==x))then some (0,false)else some (A,true)).bind fun r=>some (.inr r)) (a,((f.toNat:Int)==45),g,0,0)else bif (decide ((a.length:Int)<1))then some (0,false)else bif (decide ((a.length:Int)>b))then some (0,false)else au (fun(⟨d,C,D,E,F⟩:Str×Bool×Str×Int×Int)=>bif (decide (F<(D.length:Int)))then (idx D F).bind fun h=>bif (decide ((h.toNat:Int)<48))then some (.inr (0,false))else (idx D F).bind fun i=>bif (decide ((i.toNat:Int)>57))then some (.inr (0,false))else (idx D F).bind fun j=>some (.inl (d,C,D,w64 ((w64 (10*E))+(w64 (w8 ((j.toNat:Int)-48)))),w64 (F+1)))else (bif C then (fV (w64 (0-E))).bind fun k=>bif (!(k==d))then some (0,false)else some (w64 (0-E),true)else (fV E).bind fun l=>bif (!(l==d))then some (0,false)else some (E,true)).bind fun r=>some (.inr r)) (a,((f.toNat:Int)==45),a,0,0)else bif (decide ((a.length:Int)<1))then some (0,false)else bif (decide ((a.length:Int)>b))then some (0,false)else au (fun(⟨e,G,H,I,J⟩:Str×Bool×Str×Int×Int)=>bif (decide (J<(H.length:Int)))then (idx H J).bind fun m=>bif (decide ((m.toNat:Int)<48))then some (.inr (0,false))else (idx H J).bind fun n=>bif (decide ((n.toNat:Int)>57))then some (.inr (0,false))else (idx H J).bind fun o=>some (.inl (e,G,H,w64 ((w64 (10*I))+(w64 (w8 ((o.toNat:Int)-48)))),w64 (J+1)))else (bif G then (fV (w64 (0-I))).bind fun p=>bif (!(p==e))then some (0,false)else some (w64 (0-I),true)else (fV I).bind fun q=>bif (!(q==e))then some (0,false)else some (I,true)).bind fun r=>some (.inr r)) (a,false,a,0,0)
def agM:Fsp:=⟨281,[shF .str,shF .int],[shF .int,shF .bool],true,false,fun x=>Ec x.1 x.2⟩
def jP(a:Str):Option (Int×Bool):=(Ec a 12).bind fun b=>some (b.1,b.2)
def Z8:Fsp:=⟨249,[shF .str],[shF .int,shF .bool],true,false,fun x=>jP x⟩
def fU(a:Str):Option (Bool):=au (fun (b:Str×Int)=>bif (decide (b.2<(b.1.length:Int)))then (idx b.1 b.2).bind fun c=>bif (decide ((c.toNat:Int)<32))then some (.inr (false))else (idx b.1 b.2).bind fun d=>bif (decide ((d.toNat:Int)>126))then some (.inr (false))else (idx b.1 b.2).bind fun e=>bif ((e.toNat:Int)==34)then some (.inr (false))else some (.inl (b.1,w64 (b.2+1)))else some (.inr ((decide ((b.1.length:Int)<=20))))) (a,0)
def Qd:Fsp:=⟨250,[shF .str],[shF .bool],true,false,fun x=>fU x⟩
def lN(a:Str)(b:Int):Option (Int):=(idx a b).bind fun c=>bif ((c.toNat:Int)==40)then some (1)else bif ((c.toNat:Int)==41)then some (1)else bif ((c.toNat:Int)==91)then some (1)else bif ((c.toNat:Int)==93)then some (1)else bif ((c.toNat:Int)==44)then some (1)else bif ((c.toNat:Int)==43)then some (1)else bif ((c.toNat:Int)==45)then some (1)else bif ((c.toNat:Int)==42)then some (1)else bif ((c.toNat:Int)==60)then some (1)else bif ((c.toNat:Int)==61)then bif (decide ((w64 (b+1))<(a.length:Int)))then (idx a (w64 (b+1))).bind fun d=>bif ((d.toNat:Int)==61)then some (2)else some (1)else some (1)else some (0)
def aae:Fsp:=⟨251,[shF .str,shF .int],[shF .int],true,false,fun x=>lN x.1 x.2⟩
def ni(a:Str)(b:Int):Option (aK×Int):=(idx a b).bind fun y=>(wZ (y.toNat:Int)).bind fun z=>bif z then au (fun(⟨E,F,G,H,I,J,K,L,M,N,O⟩:Str×Int×Int×Int×Int×Str×Int×Int×Int×Str×Int)=>bif (decide (O<(E.length:Int)))then (idx E O).bind fun A=>(wZ (A.toNat:Int)).bind fun B=>bif B then some (.inl (E,F,G,H,I,J,K,L,M,N,w64 (O+1)))else (idx E O).bind fun C=>(xg (C.toNat:Int)).bind fun D=>bif D then some (.inl (E,F,G,H,I,J,K,L,M,N,w64 (O+1)))else ((eff.cutL E (some F) (some O)).bind fun w=>bif (decide ((w64 (O-F))>8))then some (aK.mk 1 L M w,0)else some (aK.mk 1 L M w,w64 (O-F))).bind fun r=>some (.inr r)else ((eff.cutL E (some F) (some O)).bind fun x=>bif (decide ((w64 (O-F))>8))then some (aK.mk 1 L M x,0)else some (aK.mk 1 L M x,w64 (O-F))).bind fun r=>some (.inr r)) (a,b,0,0,0,[],0,0,b,[],b)else (idx a b).bind fun k=>(xg (k.toNat:Int)).bind fun l=>bif l then au (fun(⟨e,P,Q,R,S,T,U,V,W,X,Y⟩:Str×Int×Int×Int×Int×Str×Int×Int×Int×Str×Int)=>bif (decide (Y<(e.length:Int)))then (idx e Y).bind fun m=>(xg (m.toNat:Int)).bind fun n=>bif n then some (.inl (e,P,Q,R,S,T,U,V,W,X,w64 (Y+1)))else ((eff.cutL e (some P) (some Y)).bind fun o=>(jP o).bind fun f=>bif (!f.2)then some (aK.mk 2 f.1 W X,0)else bif (decide (f.1>1000000000))then some (aK.mk 2 f.1 W X,0)else some (aK.mk 2 f.1 W X,w64 (Y-P))).bind fun r=>some (.inr r)else ((eff.cutL e (some P) (some Y)).bind fun p=>(jP p).bind fun g=>bif (!g.2)then some (aK.mk 2 g.1 W X,0)else bif (decide (g.1>1000000000))then some (aK.mk 2 g.1 W X,0)else some (aK.mk 2 g.1 W X,w64 (Y-P))).bind fun r=>some (.inr r)) (a,b,0,0,0,[],0,0,b,[],b)else (idx a b).bind fun q=>bif ((q.toNat:Int)==34)then au (fun(⟨d,Z,aa,ac,ae,aq,ar,aw,az,aD,aE⟩:Str×Int×Int×Int×Int×Str×Int×Int×Int×Str×Int)=>bif (decide (aE<(d.length:Int)))then (idx d aE).bind fun s=>bif ((s.toNat:Int) != 34)then some (.inl (d,Z,aa,ac,ae,aq,ar,aw,az,aD,w64 (aE+1)))else ((eff.cutL d (some (w64 (Z+1))) (some aE)).bind fun h=>bif (aE==(d.length:Int))then some (aK.mk 3 aw az h,0)else (fU h).bind fun t=>bif (!t)then some (aK.mk 3 aw az h,0)else some (aK.mk 3 aw az h,w64 ((w64 (aE+1))-Z))).bind fun r=>some (.inr r)else ((eff.cutL d (some (w64 (Z+1))) (some aE)).bind fun i=>bif (aE==(d.length:Int))then some (aK.mk 3 aw az i,0)else
      (fU i).bind fun u=>
      bif (!u)then
       some (aK.mk 3 aw az i,0)
      else
       some (aK.mk 3 aw az i,w64 ((w64 (aE+1))-Z))
    ).bind fun r=>some (.inr r)
  ) (a,b,0,0,0,[],0,0,b,[],w64 (b+1))
 else
  (lN a b).bind fun j=>
  (eff.cutL a (some b) (some (w64 (b+j)))).bind fun v=>
  some (aK.mk 4 0 b v,w64 ((w64 (b+j))-b))
def agG:Fsp:=⟨199,[shF .str,shF .int],[shT .token,shF .int],true,false,fun x=>ni x.1 x.2⟩
def wW(a:Str):Option ((List aK)×Int):=bif (decide ((a.length:Int)>120))then some ([],120)else au (fun(⟨e,f,g⟩:Str×(List aK)×Int)=>bif (decide (g<(e.length:Int)))then (idx e g).bind fun d=>bif ((d.toNat:Int)==32)then some (.inl (e,f,w64 (g+1)))else (ni e g).bind fun c=>bif (c.2==0)then some (.inr ([],g))else bif ((f.length:Int)==60)then some (.inr ([],g))else (gd (f.length+[c.1].length)).bind fun _=>some (.inl (e,f++[c.1],w64 (g+c.2)))else some (.inr (f,(-1)))) (a,[],0)
def Z4:Fsp:=⟨160,[shF .str],[slF .token,shF .int],true,false,fun x=>wW x⟩
def iE(a:aK)(b:Str):Option (Bool):=bif (a.kind==4)then some ((a.text==b))else some (false)
def aat:Fsp:=⟨252,[shT .token,shF .str],[shF .bool],true,false,fun x=>iE x.1 x.2⟩
def zh(a:aK)(b:Str):Option (Bool):=bif (a.kind==1)then some ((a.text==b))else some (false)
def XR:Fsp:=⟨253,[shT .token,shF .str],[shF .bool],true,false,fun x=>zh x.1 x.2⟩
def dZ(a:GRd)(b:Str):Option (GRd×Bool):=bif (decide (a.bad<0))then bif (decide (a.i<(a.toks.length:Int)))then (idx a.toks a.i).bind fun c=>(iE c b).bind fun d=>bif d then some (a,true)else (idx a.toks a.i).bind fun e=>(zh e b).bind fun f=>some (a,f)else some (a,false)else some (a,false)
def adv:Fsp:=⟨200,[shT .rd,shF .str],[shT .rd,shF .bool],false,false,fun x=>dZ x.1 x.2⟩
def BJ(a:Str):Option (Bool):=au (fun (b:Str×Int)=>bif (decide (b.2<(b.1.length:Int)))then (idx b.1 b.2).bind fun d=>bif (decide ((d.toNat:Int)>=97))then (idx b.1 b.2).bind fun c=>(idx b.1 b.2).bind fun e=>bif (decide ((e.toNat:Int)>=48))then (idx b.1 b.2).bind fun f=>bif (!(decide ((c.toNat:Int)<=122)))then bif (b.2==0)then some (.inr (false))else bif (!(decide ((f.toNat:Int)<=57)))then some (.inr (false))else some (.inl (b.1,w64 (b.2+1)))else some (.inl (b.1,w64 (b.2+1)))else bif (!(decide ((c.toNat:Int)<=122)))then bif (b.2==0)then some (.inr (false))else some (.inr (false))else some (.inl (b.1,w64 (b.2+1)))else (idx b.1 b.2).bind fun g=>bif (decide ((g.toNat:Int)>=48))then (idx b.1 b.2).bind fun h=>bif (b.2==0)then some (.inr (false))else bif (!(decide ((h.toNat:Int)<=57)))then some (.inr (false))else some (.inl (b.1,w64 (b.2+1)))else bif (b.2==0)then some (.inr (false))else some (.inr (false))else some (.inr ((decide ((b.1.length:Int)>0))))) (a,0)
def adi:Fsp:=⟨169,[shF .str],[shF .bool],true,false,fun x=>BJ x⟩
def kV(a:List Str)(b:Str):Option (Bool):=au (fun(⟨e,f,g⟩:(List Str)×Str×Int)=>bif (decide (g<(e.length:Int)))then (idx e g).bind fun d=>bif (d==f)then some (.inr (true))else some (.inl (e,f,w64 (g+1)))else some (.inr (false))) (a,b,0)
def aiO:Fsp:=⟨120,[slF .str,shF .str],[shF .bool],true,false,fun x=>kV x.1 x.2⟩
def qL:Option ((List Str)):=some (([[108,101,116],[105,110],[105,102],[116,104,101,110],[101,108,115,101],[102,111,114],[100,111],[108,101,110],[115,117,109],[116,97,107,101],[115,107,105,112],[114,97,110,103,101],[110,116,104],[119,104,101,114,101],[107,101,101,112],[97,100,100],[103,114,111,117,112],[106,111,105,110],[99,111,108,117,109,110],[114,111,119,115],[99,108,111,99,107],[99,104,97,110,99,101],[102,105,108,101],[116,97,98,108,101]]:List Str))
def TV:Fsp:=⟨214,[],[slF .str],true,false,fun x=>qL⟩
def kC(a:Str):Option (Bool):=(qL).bind fun b=>(kV b a).bind fun c=>some (c)
def Ue:Fsp:=⟨170,[shF .str],[shF .bool],true,false,fun x=>kC x⟩
def bM(a:Str):Option (Bool):=(BJ a).bind fun b=>bif b then bif (decide ((a.length:Int)<=8))then (kC a).bind fun c=>some ((!c))else some (false)else some (false)
def Qe:Fsp:=⟨125,[shF .str],[shF .bool],true,false,fun x=>bM x⟩
def iJ(a:GRd):Option (GRd×af):=bif (decide (a.bad<0))then bif (decide (a.i<(a.toks.length:Int)))then (idx a.toks a.i).bind fun b=>some (GRd.mk a.toks a.i a.stop b.pos,af.mk 0 0 [] [])else some (GRd.mk a.toks a.i a.stop a.stop,af.mk 0 0 [] [])else some (a,af.mk 0 0 [] [])
def adx:Fsp:=⟨162,[shT .rd],[shT .rd,shT .expr],false,true,fun x=>iJ x⟩
def BQ(a:GRd):Option (GRd×Str):=bif (decide (a.bad>=0))then (iJ a).bind fun b=>some (b.1,[])else bif (decide (a.i>=(a.toks.length:Int)))then (iJ a).bind fun c=>some (c.1,[])else (idx a.toks a.i).bind fun d=>bif (d.kind != 1)then (iJ a).bind fun e=>some (e.1,[])else (idx a.toks a.i).bind fun f=>(bM f.text).bind fun g=>bif (!g)then (iJ a).bind fun h=>some (h.1,[])else (idx a.toks (w64 ((w64 (a.i+1))-1))).bind fun j=>some (GRd.mk a.toks (w64 (a.i+1)) a.stop a.bad,j.text)
def adw:Fsp:=⟨201,[shT .rd],[shT .rd,shF .str],false,false,fun x=>BQ x⟩
def eP(a:GRd)(b:Str):Option (GRd):=(dZ a b).bind fun c=>bif (!c.2)then (iJ c.1).bind fun d=>some (d.1)else some (GRd.mk c.1.toks (w64 (c.1.i+1)) c.1.stop c.1.bad)
def adu:Fsp:=⟨202,[shT .rd,shF .str],[shT .rd],false,false,fun x=>eP x.1 x.2⟩
def lg(a:Int)(b:af)(c:af):Option (af):=some (af.mk 6 a [] [aj b,aj c])
def aiT:Fsp:=⟨255,[shF .int,shT .expr,shT .expr],[shT .expr],false,true,fun x=>lg x.1 x.2.1 x.2.2⟩
def dQ(a:Str):Option (Int):=bif (a==[99,108,111,99,107])then some (0)else bif (a==[108,101,110])then some (1)else bif (a==[115,117,109])then some (1)else bif (a==[114,111,119,115])then some (1)else bif (a==[99,104,97,110,99,101])then some (1)else bif (a==[102,105,108,101])then some (1)else bif (a==[116,97,107,101])then some (2)else bif (a==[115,107,105,112])then some (2)else bif (a==[114,97,110,103,101])then some (2)else bif (a==[110,116,104])then some (2)else bif (a==[107,101,101,112])then some (2)else bif (a==[99,111,108,117,109,110])then some (2)else bif (a==[116,97,98,108,101])then some (2)else bif (a==[119,104,101,114,101])then some (3)else bif (a==[103,114,111,117,112])then some (3)else bif (a==[106,111,105,110])then some (3)else bif (a==[97,100,100])then some (4)else some ((-1))
def J5:Fsp:=⟨283,[shF .str],[shF .int],true,false,fun x=>dQ x⟩
def XP(a:Int):Option (af):=some (af.mk 1 a [] [])
def agQ:Fsp:=⟨330,[shF .int],[shT .expr],true,false,fun x=>XP x⟩
def P8(a:Str):Option (af):=some (af.mk 3 0 a [])
def adC:Fsp:=⟨331,[shF .str],[shT .expr],true,false,fun x=>P8 x⟩
def JZ(rsL11Expr:GRd->Option (GRd×af))(rsL11Compare:GRd->Option (GRd×af))(rsL11Sum:GRd->Option (GRd×af))(rsL11Product:GRd->Option (GRd×af))(rsL11Atom:GRd->Option (GRd×af))(rsL11Args:GRd->Str->Option (GRd×(List af)))(a:GRd):Option (GRd×af):=(dZ a [108,101,116]).bind fun c=>bif c.2 then (BQ (GRd.mk c.1.toks (w64 (c.1.i+1)) c.1.stop c.1.bad)).bind fun o=>(eP o.1 [61]).bind fun s=>(rsL11Expr s).bind fun p=>(eP p.1 [105,110]).bind fun t=>(rsL11Expr t).bind fun q=>some (q.1,af.mk 7 0 o.2 [aj p.2,aj q.2])else (dZ c.1 [105,102]).bind fun d=>bif d.2 then (rsL11Expr (GRd.mk d.1.toks (w64 (d.1.i+1)) d.1.stop d.1.bad)).bind fun r=>(eP r.1 [116,104,101,110]).bind fun u=>(rsL11Expr u).bind fun e=>(eP e.1 [101,108,115,101]).bind fun l=>(rsL11Expr l).bind fun f=>some (f.1,af.mk 8 0 [] [aj r.2,aj e.2,aj f.2])else (dZ d.1 [102,111,114]).bind fun b=>bif b.2 then (BQ (GRd.mk b.1.toks (w64 (b.1.i+1)) b.1.stop b.1.bad)).bind fun g=>(eP g.1 [105,110]).bind fun m=>(rsL11Expr m).bind fun h=>(eP h.1 [100,111]).bind fun n=>(rsL11Expr n).bind fun j=>some (j.1,af.mk 9 0 g.2 [aj h.2,aj j.2])else (rsL11Compare b.1).bind fun k=>some (k.1,aj k.2)
def rU(rsL11Expr:GRd->Option (GRd×af))(rsL11Compare:GRd->Option (GRd×af))(rsL11Sum:GRd->Option (GRd×af))(rsL11Product:GRd->Option (GRd×af))(rsL11Atom:GRd->Option (GRd×af))(rsL11Args:GRd->Str->Option (GRd×(List af)))(a:GRd):Option (GRd×af):=(rsL11Sum a).bind fun d=>(dZ d.1 [60]).bind fun b=>bif b.2 then (rsL11Sum (GRd.mk b.1.toks (w64 (b.1.i+1)) b.1.stop b.1.bad)).bind fun e=>(lg 4 (aj d.2) (aj e.2)).bind fun g=>some (e.1,aj g)else (dZ b.1 [61,61]).bind fun c=>bif c.2 then (rsL11Sum (GRd.mk c.1.toks (w64 (c.1.i+1)) c.1.stop c.1.bad)).bind fun f=>(lg 5 (aj d.2) (aj f.2)).bind fun h=>some (f.1,aj h)else some (c.1,aj d.2)
def PY(rsL11Expr:GRd->Option (GRd×af))(rsL11Compare:GRd->Option (GRd×af))(rsL11Sum:GRd->Option (GRd×af))(rsL11Product:GRd->Option (GRd×af))(rsL11Atom:GRd->Option (GRd×af))(rsL11Args:GRd->Str->Option (GRd×(List af)))(a:GRd):Option (GRd×af):=(rsL11Product a).bind fun j=>au (fun(⟨r,s,t,u,v,w,x,y,z,A,B,C⟩:(List aK)×Int×Int×Int×Int×Int×Str×(List af)×Int×Int×Str×(List af))=>(dZ (GRd.mk r s t u) [43]).bind fun p=>bif p.2 then (dZ p.1 [45]).bind fun f=>bif f.2 then (rsL11Product (GRd.mk f.1.toks (w64 (f.1.i+1)) f.1.stop f.1.bad)).bind fun k=>(lg 2 (af.mk z A B C) (aj k.2)).bind fun m=>some (.inl (k.1.toks,k.1.i,k.1.stop,k.1.bad,v,w,x,y,m.kind,m.n,m.text,m.args))else (rsL11Product (GRd.mk f.1.toks (w64 (f.1.i+1)) f.1.stop f.1.bad)).bind fun l=>(lg 1 (af.mk z A B C) (aj l.2)).bind fun o=>some (.inl (l.1.toks,l.1.i,l.1.stop,l.1.bad,v,w,x,y,o.kind,o.n,o.text,o.args))else (dZ p.1 [45]).bind fun q=>bif q.2 then (dZ q.1 [45]).bind fun c=>bif c.2 then (rsL11Product (GRd.mk c.1.toks (w64 (c.1.i+1)) c.1.stop c.1.bad)).bind fun d=>(lg 2 (af.mk z A B C) (aj d.2)).bind fun g=>some (.inl (d.1.toks,d.1.i,d.1.stop,d.1.bad,v,w,x,y,g.kind,g.n,g.text,g.args))else (rsL11Product (GRd.mk c.1.toks (w64 (c.1.i+1)) c.1.stop c.1.bad)).bind fun e=>(lg 1 (af.mk z A B C) (aj e.2)).bind fun h=>some (.inl (e.1.toks,e.1.i,e.1.stop,e.1.bad,v,w,x,y,h.kind,h.n,h.text,h.args))else some (.inr (q.1,af.mk z A B C))) (j.1.toks,j.1.i,j.1.stop,j.1.bad,0,0,[],[],j.2.kind,j.2.n,j.2.text,j.2.args)
def zf(rsL11Expr:GRd->Option (GRd×af))(rsL11Compare:GRd->Option (GRd×af))(rsL11Sum:GRd->Option (GRd×af))(rsL11Product:GRd->Option (GRd×af))(rsL11Atom:GRd->Option (GRd×af))(rsL11Args:GRd->Str->Option (GRd×(List af)))(a:GRd):Option (GRd×af):=(rsL11Atom a).bind fun c=>au (fun(⟨g,h,j,k,l,m,o,p,q,r,s,t⟩:(List aK)×Int×Int×Int×Int×Int×Str×(List af)×Int×Int×Str×(List af))=>(dZ (GRd.mk g h j k) [42]).bind fun d=>bif d.2 then (rsL11Atom (GRd.mk d.1.toks (w64 (d.1.i+1)) d.1.stop d.1.bad)).bind fun e=>(lg 3 (af.mk q r s t) (aj e.2)).bind fun f=>some (.inl (e.1.toks,e.1.i,e.1.stop,e.1.bad,l,m,o,p,f.kind,f.n,f.text,f.args))else some (.inr (d.1,af.mk q r s t))) (c.1.toks,c.1.i,c.1.stop,c.1.bad,0,0,[],[],c.2.kind,c.2.n,c.2.text,c.2.args)
def Ee(rsL11Expr:GRd->Option (GRd×af))(rsL11Compare:GRd->Option (GRd×af))(rsL11Sum:GRd->Option (GRd×af))(rsL11Product:GRd->Option (GRd×af))(rsL11Atom:GRd->Option (GRd×af))(rsL11Args:GRd->Str->Option (GRd×(List af)))(a:GRd):Option (GRd×af):=bif (decide (a.bad>=0))then (iJ a).bind fun F=>some (F.1,aj F.2)else bif (decide (a.i>=(a.toks.length:Int)))then (iJ a).bind fun G=>some (G.1,aj G.2)else (idx a.toks a.i).bind fun b=>bif (b.kind==2)then (XP b.n).bind fun I=>some (GRd.mk a.toks (w64 (a.i+1)) a.stop a.bad,aj I)else bif (b.kind==3)then some (GRd.mk a.toks (w64 (a.i+1)) a.stop a.bad,af.mk 2 0 b.text [])else bif (b.kind==1)then (bM b.text).bind fun J=>bif J then (P8 b.text).bind fun K=>some (GRd.mk a.toks (w64 (a.i+1)) a.stop a.bad,aj K)else bif (b.kind==1)then (dQ b.text).bind fun L=>bif (decide (L>=0))then (eP (GRd.mk a.toks (w64 (a.i+1)) a.stop a.bad) [40]).bind fun M=>(rsL11Args M [41]).bind fun H=>some (H.1,af.mk 5 0 b.text H.2)else (iE b [91]).bind fun r=>bif r then (rsL11Args (GRd.mk a.toks (w64 (a.i+1)) a.stop a.bad) [93]).bind fun c=>some (c.1,af.mk 4 0 [] c.2)else (iE b [40]).bind fun s=>bif s then (rsL11Expr (GRd.mk a.toks (w64 (a.i+1)) a.stop a.bad)).bind fun d=>(eP d.1 [41]).bind fun t=>some (t,aj d.2)else (iJ a).bind fun e=>some (e.1,aj e.2)else (iE b [91]).bind fun u=>bif u then (rsL11Args (GRd.mk a.toks (w64 (a.i+1)) a.stop a.bad) [93]).bind fun f=>some (f.1,af.mk 4 0 [] f.2)else (iE b [40]).bind fun v=>bif v then (rsL11Expr (GRd.mk a.toks (w64 (a.i+1)) a.stop a.bad)).bind fun g=>(eP g.1 [41]).bind fun w=>some (w,aj g.2)else (iJ a).bind fun h=>some (h.1,aj h.2)else bif (b.kind==1)then (dQ b.text).bind fun x=>bif (decide (x>=0))then (eP (GRd.mk a.toks (w64 (a.i+1)) a.stop a.bad) [40]).bind fun y=>(rsL11Args y [41]).bind fun j=>some (j.1,af.mk 5 0 b.text j.2)else (iE b [91]).bind fun z=>bif z then (rsL11Args (GRd.mk a.toks (w64 (a.i+1)) a.stop a.bad) [93]).bind fun k=>some (k.1,af.mk 4 0 [] k.2)else (iE b [40]).bind fun A=>bif A then (rsL11Expr (GRd.mk a.toks (w64 (a.i+1)) a.stop a.bad)).bind fun l=>(eP l.1 [41]).bind fun B=>some (B,aj l.2)else (iJ a).bind fun m=>some (m.1,aj m.2)else (iE b [91]).bind fun C=>bif C then (rsL11Args (GRd.mk a.toks (w64 (a.i+1)) a.stop a.bad) [93]).bind fun o=>some (o.1,af.mk 4 0 [] o.2)else (iE b [40]).bind fun D=>bif D then (rsL11Expr (GRd.mk a.toks (w64 (a.i+1)) a.stop a.bad)).bind fun p=>(eP p.1 [41]).bind fun E=>some (E,aj p.2)else (iJ a).bind fun q=>some (q.1,aj q.2)
def xq(rsL11Expr:GRd->Option (GRd×af))(rsL11Compare:GRd->Option (GRd×af))(rsL11Sum:GRd->Option (GRd×af))(rsL11Product:GRd->Option (GRd×af))(rsL11Atom:GRd->Option (GRd×af))(rsL11Args:GRd->Str->Option (GRd×(List af)))(a:GRd)(b:Str):Option (GRd×(List af)):=(dZ a b).bind fun d=>bif d.2 then some (GRd.mk d.1.toks (w64 (d.1.i+1)) d.1.stop d.1.bad,[])else au (fun(⟨j,k,l,m,n,o⟩:(List aK)×Int×Int×Int×Str×(List af))=>bif (decide (m<0))then (rsL11Expr (GRd.mk j k l m)).bind fun f=>(gd (o.length+[aj f.2].length)).bind fun _=>(dZ f.1 [44]).bind fun e=>bif (!e.2)then ((eP e.1 n).bind fun g=>some (g,o++[aj f.2])).bind fun r=>some (.inr r)else some (.inl (e.1.toks,w64 (e.1.i+1),e.1.stop,e.1.bad,n,o++[aj f.2]))else ((eP (GRd.mk j k l m) n).bind fun h=>some (h,o)).bind fun r=>some (.inr r)) (d.1.toks,d.1.i,d.1.stop,d.1.bad,b,[])
def aH:Nat->(GRd->Option (GRd×af))×(GRd->Option (GRd×af))×(GRd->Option (GRd×af))×(GRd->Option (GRd×af))×(GRd->Option (GRd×af))×(GRd->Str->Option (GRd×(List af)))
 | 0=>(fun _=>none,fun _=>none,fun _=>none,fun _=>none,fun _=>none,fun _ _=>none)
 | n+1=>(JZ (aH n).1 (aH n).2.1 (aH n).2.2.1 (aH n).2.2.2.1 (aH n).2.2.2.2.1 (aH n).2.2.2.2.2,rU (aH n).1 (aH n).2.1 (aH n).2.2.1 (aH n).2.2.2.1 (aH n).2.2.2.2.1 (aH n).2.2.2.2.2,PY (aH n).1 (aH n).2.1 (aH n).2.2.1 (aH n).2.2.2.1 (aH n).2.2.2.2.1 (aH n).2.2.2.2.2,zf (aH n).1 (aH n).2.1 (aH n).2.2.1 (aH n).2.2.2.1 (aH n).2.2.2.2.1 (aH n).2.2.2.2.2,Ee (aH n).1 (aH n).2.1 (aH n).2.2.1 (aH n).2.2.2.1 (aH n).2.2.2.2.1 (aH n).2.2.2.2.2,xq (aH n).1 (aH n).2.1 (aH n).2.2.1 (aH n).2.2.2.1 (aH n).2.2.2.2.1 (aH n).2.2.2.2.2)
def P5(a:GRd):Option (GRd×af):=(aH (siz a+1)).1 a
def ady:Fsp:=⟨161,[shT .rd],[shT .rd,shT .expr],false,false,fun x=>P5 x⟩
def Me(n:Nat):Fsp:=⟨161,[shT .rd],[shT .rd,shT .expr],false,false,fun x=>(aH n).1 x⟩
def aaq(a:GRd):Option (GRd×af):=(aH (siz a+1)).2.1 a
def Ua:Fsp:=⟨203,[shT .rd],[shT .rd,shT .expr],false,false,fun x=>aaq x⟩
def BR(n:Nat):Fsp:=⟨203,[shT .rd],[shT .rd,shT .expr],false,false,fun x=>(aH n).2.1 x⟩
def alx(a:GRd):Option (GRd×af):=(aH (siz a+1)).2.2.1 a
def agP:Fsp:=⟨254,[shT .rd],[shT .rd,shT .expr],false,false,fun x=>alx x⟩
def PX(n:Nat):Fsp:=⟨254,[shT .rd],[shT .rd,shT .expr],false,false,fun x=>(aH n).2.2.1 x⟩
def aap(a:GRd):Option (GRd×af):=(aH (siz a+1)).2.2.2.1 a
def TY:Fsp:=⟨282,[shT .rd],[shT .rd,shT .expr],false,false,fun x=>aap x⟩
def BP(n:Nat):Fsp:=⟨282,[shT .rd],[shT .rd,shT .expr],false,false,fun x=>(aH n).2.2.2.1 x⟩
def aiR(a:GRd):Option (GRd×af):=(aH (siz a+1)).2.2.2.2.1 a
def adz:Fsp:=⟨303,[shT .rd],[shT .rd,shT .expr],false,false,fun x=>aiR x⟩
def MB(n:Nat):Fsp:=⟨303,[shT .rd],[shT .rd,shT .expr],false,false,fun x=>(aH n).2.2.2.2.1 x⟩
def aiS(a:GRd)(b:Str):Option (GRd×(List af)):=(aH (siz a+1)).2.2.2.2.2 a b
def adA:Fsp:=⟨332,[shT .rd,shF .str],[shT .rd,slF .expr],false,false,fun x=>aiS x.1 x.2⟩
def MC(n:Nat):Fsp:=⟨332,[shT .rd,shF .str],[shT .rd,slF .expr],false,false,fun x=>(aH n).2.2.2.2.2 x.1 x.2⟩
def J3(rsL10Left:af->Int->Option (Int))(a:af)(b:Int):Option (Int):=au (fun(⟨f,g,h,i,j,k⟩:Int×Int×Int×Str×(List af)×Int)=>bif (decide (k<(j.length:Int)))then bif (decide (f>=0))then (idx j k).bind fun d=>(rsL10Left (aj d) f).bind fun e=>some (.inl (e,g,h,i,j,w64 (k+1)))else some (.inr (f))else some (.inr (f))) (w64 (b-1),a.kind,a.n,a.text,a.args,0)
def xu:Nat->(af->Int->Option (Int))
 | 0=>fun _ _=>none
 | n+1=>J3 (xu n)
def Qa(a:af)(b:Int):Option (Int):=(xu (siz a+1)) a b
def adD:Fsp:=⟨204,[shT .expr,shF .int],[shF .int],true,false,fun x=>Qa x.1 x.2⟩
def MF(n:Nat):Fsp:=⟨204,[shT .expr,shF .int],[shF .int],true,false,fun x=>(xu n) x.1 x.2⟩
def F7(a:Int)(b:Int):Option (Int):=bif (decide (a>b))then some (a)else some (b)
def aiN:Fsp:=⟨126,[shF .int,shF .int],[shF .int],true,false,fun x=>F7 x.1 x.2⟩
def qJ(rsNestingOf:af->Option (Int))(a:af):Option (Int):=au (fun(⟨f,g,h,i,j,k⟩:Int×Int×Str×(List af)×Int×Int)=>bif (decide (k<(i.length:Int)))then (idx i k).bind fun c=>(rsNestingOf (aj c)).bind fun d=>(F7 j d).bind fun e=>some (.inl (f,g,h,i,e,w64 (k+1)))else some (.inr (w64 (j+1)))) (a.kind,a.n,a.text,a.args,0,0)
def ku:Nat->(af->Option (Int))
 | 0=>fun _=>none
 | n+1=>qJ (ku n)
def F6(a:af):Option (Int):=(ku (siz a+1)) a
def XF:Fsp:=⟨205,[shT .expr],[shF .int],true,false,fun x=>F6 x⟩
def Fb(n:Nat):Fsp:=⟨205,[shT .expr],[shF .int],true,false,fun x=>(ku n) x⟩
def lZ(a:Int)(b:Int)(c:Int):Option (Bool):=bif (decide (a>=b))then some ((decide (a<=c)))else some (false)
def alv:Fsp:=⟨75,[shF .int,shF .int,shF .int],[shF .bool],true,false,fun x=>lZ x.1 x.2.1 x.2.2⟩
def oM(a:af):Option (Bool):=bif (a.kind==1)then bif ((a.args.length:Int)==0)then bif (a.text==[])then (lZ a.n 0 1000000000).bind fun b=>some (b)else some (false)else some (false)else bif (a.kind==2)then bif ((a.args.length:Int)==0)then bif (a.n==0)then (fU a.text).bind fun c=>some (c)else some (false)else some (false)else bif (a.kind==3)then bif ((a.args.length:Int)==0)then bif (a.n==0)then (bM a.text).bind fun d=>some (d)else some (false)else some (false)else bif (a.kind==4)then bif (a.n==0)then bif (a.text==[])then some ((decide ((a.args.length:Int)<=8)))else some (false)else some (false)else bif (a.kind==5)then bif (a.n==0)then (dQ a.text).bind fun e=>some (((a.args.length:Int)==e))else some (false)else bif (a.kind==6)then bif (a.text==[])then bif ((a.args.length:Int)==2)then (lZ a.n 1 5).bind fun f=>some (f)else some (false)else some (false)else bif (a.kind==7)then bif (a.n==0)then bif ((a.args.length:Int)==2)then (bM a.text).bind fun g=>some (g)else some (false)else some (false)else bif (a.kind==9)then bif (a.n==0)then bif ((a.args.length:Int)==2)then (bM a.text).bind fun h=>some (h)else some (false)else some (false)else bif (a.kind==8)then bif (a.n==0)then bif (a.text==[])then some (((a.args.length:Int)==3))else some (false)else some (false)else some (false)
def adB:Fsp:=⟨256,[shT .expr],[shF .bool],true,false,fun x=>oM x⟩
def BV(rsL10All:af->Option (Bool))(a:af):Option (Bool):=au (fun(⟨f,g,h,i,j⟩:Int×Int×Str×(List af)×Int)=>bif (decide (j<(i.length:Int)))then (idx i j).bind fun c=>(rsL10All (aj c)).bind fun d=>bif (!d)then some (.inr (false))else some (.inl (f,g,h,i,w64 (j+1)))else ((oM (af.mk f g h i)).bind fun e=>some (e)).bind fun r=>some (.inr r)) (a.kind,a.n,a.text,a.args,0)
def qN:Nat->(af->Option (Bool))
 | 0=>fun _=>none
 | n+1=>BV (qN n)
def Oo(a:af):Option (Bool):=(qN (siz a+1)) a
def agR:Fsp:=⟨206,[shT .expr],[shF .bool],true,false,fun x=>Oo x⟩
def Qc(n:Nat):Fsp:=⟨206,[shT .expr],[shF .bool],true,false,fun x=>(qN n) x⟩
def iL(a:af):Option (Bool):=(Qa (aj a) 40).bind fun b=>bif (decide (b>=0))then (F6 (aj a)).bind fun c=>bif (decide (c<=8))then (Oo (aj a)).bind fun d=>some (d)else some (false)else some (false)
def Qg:Fsp:=⟨163,[shT .expr],[shF .bool],true,false,fun x=>iL x⟩
def pz(a:Str):Option (af×Int):=(wW a).bind fun c=>bif (decide (c.2>=0))then some (af.mk 0 0 [] [],c.2)else (P5 (GRd.mk c.1 0 (a.length:Int) (-1))).bind fun b=>bif (decide (b.1.bad<0))then bif (decide (b.1.i<(c.1.length:Int)))then (iJ b.1).bind fun d=>bif (decide (d.1.bad>=0))then some (af.mk 0 0 [] [],d.1.bad)else (iL (aj b.2)).bind fun e=>bif (!e)then some (af.mk 0 0 [] [],0)else some (aj b.2,(-1))else bif (decide (b.1.bad>=0))then some (af.mk 0 0 [] [],b.1.bad)else (iL (aj b.2)).bind fun f=>bif (!f)then some (af.mk 0 0 [] [],0)else some (aj b.2,(-1))else bif (decide (b.1.bad>=0))then some (af.mk 0 0 [] [],b.1.bad)else (iL (aj b.2)).bind fun g=>bif (!g)then some (af.mk 0 0 [] [],0)else some (aj b.2,(-1))
def XD:Fsp:=⟨119,[shF .str],[shT .expr,shF .int],false,false,fun x=>pz x⟩
def uh(a:List Str):Option ((List Str)):=au (fun(⟨w,x,y⟩:(List Str)×(List Str)×Int)=>bif (decide (y<(w.length:Int)))then au (fun(⟨n,z,A,B⟩:(List Str)×(List Str)×Int×Int)=>bif (decide (B<(z.length:Int)))then (idx z B).bind fun _=>(z[B.toNat]?).bind fun s=>(idx n A).bind fun t=>bif (Op.bytesLess s t)then some (.inl (n,z,A,w64 (B+1)))else (bif (decide (B<(z.length:Int)))then (idx z B).bind fun _=>(z[B.toNat]?).bind fun u=>(idx n A).bind fun v=>bif (u==v)then some (.inl (n,z,w64 (A+1)))else (cutAt z B).bind fun o=>(gd (0+(z.drop o).length)).bind fun _=>(cutAt z B).bind fun c=>(idx n A).bind fun d=>(gd ((z.take c).length+([d]:List Str).length)).bind fun _=>(gd (((z.take c)++([d]:List Str)).length+([]++(z.drop o)).length)).bind fun _=>some (.inl (n,((z.take c)++([d]:List Str))++([]++(z.drop o)),w64 (A+1)))else (cutAt z B).bind fun e=>(gd (0+(z.drop e).length)).bind fun _=>(cutAt z B).bind fun f=>(idx n A).bind fun g=>(gd ((z.take f).length+([g]:List Str).length)).bind fun _=>(gd (((z.take f)++([g]:List Str)).length+([]++(z.drop e)).length)).bind fun _=>some (.inl (n,((z.take f)++([g]:List Str))++([]++(z.drop e)),w64 (A+1)))).bind fun r=>some (.inr r)else (bif (decide (B<(z.length:Int)))then (idx z B).bind fun _=>(z[B.toNat]?).bind fun p=>(idx n A).bind fun q=>bif (p==q)then some (.inl (n,z,w64 (A+1)))else (cutAt z B).bind fun h=>(gd (0+(z.drop h).length)).bind fun _=>(cutAt z B).bind fun i=>(idx n A).bind fun j=>(gd ((z.take i).length+([j]:List Str).length)).bind fun _=>(gd (((z.take i)++([j]:List Str)).length+([]++(z.drop h)).length)).bind fun _=>some (.inl (n,((z.take i)++([j]:List Str))++([]++(z.drop h)),w64 (A+1)))else (cutAt z B).bind fun k=>(gd (0+(z.drop k).length)).bind fun _=>(cutAt z B).bind fun l=>(idx n A).bind fun m=>(gd ((z.take l).length+([m]:List Str).length)).bind fun _=>(gd (((z.take l)++([m]:List Str)).length+([]++(z.drop k)).length)).bind fun _=>some (.inl (n,((z.take l)++([m]:List Str))++([]++(z.drop k)),w64 (A+1)))).bind fun r=>some (.inr r)) (w,x,y,0)else some (.inr (x))) (a,[],0)
def Xz:Fsp:=⟨164,[slF .str],[slF .str],true,false,fun x=>uh x⟩
def L9(rsL13Free:af->(List Str)->Option ((List Str))):((List Str)×Int×Int×Str×(List af)×(List Str)×Int)->Option (((List Str)×Int×Int×Str×(List af)×(List Str)×Int)⊕((List Str))):=
(fun (x2:(List Str)×Int×Int×Str×(List af)×(List Str)×Int)=>
   bif (decide (x2.2.2.2.2.2.2<(x2.2.2.2.2.1.length:Int)))then
    bif (x2.2.1==7)then
     bif (decide (x2.2.2.2.2.2.2>0))then
      (gd (0+x2.1.length)).bind fun _=>
      (gd (([]++x2.1).length+([x2.2.2.2.1]:List Str).length)).bind fun _=>
      (idx x2.2.2.2.2.1 x2.2.2.2.2.2.2).bind fun e3=>
      (rsL13Free (aj e3) (([]++x2.1)++([x2.2.2.2.1]:List Str))).bind fun r4=>
      (gd (x2.2.2.2.2.2.1.length+r4.length)).bind fun _=>
      some (.inl (x2.1,x2.2.1,x2.2.2.1,x2.2.2.2.1,x2.2.2.2.2.1,x2.2.2.2.2.2.1++r4,w64 (x2.2.2.2.2.2.2+1)))
     else
      (idx x2.2.2.2.2.1 x2.2.2.2.2.2.2).bind fun e5=>
      (rsL13Free (aj e5) x2.1).bind fun r6=>
      (gd (x2.2.2.2.2.2.1.length+r6.length)).bind fun _=>
      some (.inl (x2.1,x2.2.1,x2.2.2.1,x2.2.2.2.1,x2.2.2.2.2.1,x2.2.2.2.2.2.1++r6,w64 (x2.2.2.2.2.2.2+1)))
    else
    bif (x2.2.1==9)then
     bif (decide (x2.2.2.2.2.2.2>0))then
      (gd (0+x2.1.length)).bind fun _=>
      (gd (([]++x2.1).length+([x2.2.2.2.1]:List Str).length)).bind fun _=>
      (idx x2.2.2.2.2.1 x2.2.2.2.2.2.2).bind fun e7=>
      (rsL13Free (aj e7) (([]++x2.1)++([x2.2.2.2.1]:List Str))).bind fun r8=>
      (gd (x2.2.2.2.2.2.1.length+r8.length)).bind fun _=>
      some (.inl (x2.1,x2.2.1,x2.2.2.1,x2.2.2.2.1,x2.2.2.2.2.1,x2.2.2.2.2.2.1++r8,w64 (x2.2.2.2.2.2.2+1)))
     else
      (idx x2.2.2.2.2.1 x2.2.2.2.2.2.2).bind fun e9=>
      (rsL13Free (aj e9) x2.1).bind fun r10=>
      (gd (x2.2.2.2.2.2.1.length+r10.length)).bind fun _=>
      some (.inl (x2.1,x2.2.1,x2.2.2.1,x2.2.2.2.1,x2.2.2.2.2.1,x2.2.2.2.2.2.1++r10,w64 (x2.2.2.2.2.2.2+1)))
    else
     (idx x2.2.2.2.2.1 x2.2.2.2.2.2.2).bind fun e11=>
     (rsL13Free (aj e11) x2.1).bind fun r12=>
     (gd (x2.2.2.2.2.2.1.length+r12.length)).bind fun _=>
     some (.inl (x2.1,x2.2.1,x2.2.2.1,x2.2.2.2.1,x2.2.2.2.2.1,x2.2.2.2.2.2.1++r12,w64 (x2.2.2.2.2.2.2+1)))
   else
    some (.inr (x2.2.2.2.2.2.1))
 )
def JV(rsL13Free:af->(List Str)->Option ((List Str)))(a:af)(b:List Str):Option ((List Str)):=bif (a.kind==3)then (kV b a.text).bind fun c=>bif (!c)then (gd (0+([a.text]:List Str).length)).bind fun _=>some ([]++([a.text]:List Str))else au (L9 rsL13Free) (b,a.kind,a.n,a.text,a.args,[],0)else au (L9 rsL13Free) (b,a.kind,a.n,a.text,a.args,[],0)
def pJ:Nat->(af->(List Str)->Option ((List Str)))
 | 0=>fun _ _=>none
 | n+1=>JV (pJ n)
def PO(a:af)(b:List Str):Option ((List Str)):=(pJ (siz a+siz b+1)) a b
def adr:Fsp:=⟨165,[shT .expr,slF .str],[slF .str],true,false,fun x=>PO x.1 x.2⟩
def L8(n:Nat):Fsp:=⟨165,[shT .expr,slF .str],[slF .str],true,false,fun x=>(pJ n) x.1 x.2⟩
def um(a:af):Option ((List Str)):=(PO (aj a) []).bind fun b=>(uh b).bind fun c=>some (c)
def XT:Fsp:=⟨121,[shT .expr],[slF .str],true,false,fun x=>um x⟩
def Fg(rsL13Caught:af->Str->Str->(List Str)->Option (Bool)):(Str×Str×(List Str)×Int×Int×Str×(List af)×Int)->Option ((Str×Str×(List Str)×Int×Int×Str×(List af)×Int)⊕(Bool)):=
(fun (x3:Str×Str×(List Str)×Int×Int×Str×(List af)×Int)=>
   bif (decide (x3.2.2.2.2.2.2.2<(x3.2.2.2.2.2.2.1.length:Int)))then
    bif (x3.2.2.2.1==7)then
     bif (decide (x3.2.2.2.2.2.2.2>0))then
      (gd (0+x3.2.2.1.length)).bind fun _=>
      (gd (([]++x3.2.2.1).length+([x3.2.2.2.2.2.1]:List Str).length)).bind fun _=>
      (idx x3.2.2.2.2.2.2.1 x3.2.2.2.2.2.2.2).bind fun e4=>
      (rsL13Caught (aj e4) x3.1 x3.2.1 (([]++x3.2.2.1)++([x3.2.2.2.2.2.1]:List Str))).bind fun r5=>
      bif r5 then
       some (.inr (true))
      else
       some (.inl (x3.1,x3.2.1,x3.2.2.1,x3.2.2.2.1,x3.2.2.2.2.1,x3.2.2.2.2.2.1,x3.2.2.2.2.2.2.1,w64 (x3.2.2.2.2.2.2.2+1)))
     else
      (idx x3.2.2.2.2.2.2.1 x3.2.2.2.2.2.2.2).bind fun e6=>
      (rsL13Caught (aj e6) x3.1 x3.2.1 x3.2.2.1).bind fun r7=>
      bif r7 then
       some (.inr (true))
      else
       some (.inl (x3.1,x3.2.1,x3.2.2.1,x3.2.2.2.1,x3.2.2.2.2.1,x3.2.2.2.2.2.1,x3.2.2.2.2.2.2.1,w64 (x3.2.2.2.2.2.2.2+1)))
    else
    bif (x3.2.2.2.1==9)then
     bif (decide (x3.2.2.2.2.2.2.2>0))then
      (gd (0+x3.2.2.1.length)).bind fun _=>
      (gd (([]++x3.2.2.1).length+([x3.2.2.2.2.2.1]:List Str).length)).bind fun _=>
      (idx x3.2.2.2.2.2.2.1 x3.2.2.2.2.2.2.2).bind fun e8=>
      (rsL13Caught (aj e8) x3.1 x3.2.1 (([]++x3.2.2.1)++([x3.2.2.2.2.2.1]:List Str))).bind fun r9=>
      bif r9 then
       some (.inr (true))
      else
       some (.inl (x3.1,x3.2.1,x3.2.2.1,x3.2.2.2.1,x3.2.2.2.2.1,x3.2.2.2.2.2.1,x3.2.2.2.2.2.2.1,w64 (x3.2.2.2.2.2.2.2+1)))
     else
      (idx x3.2.2.2.2.2.2.1 x3.2.2.2.2.2.2.2).bind fun e10=>
      (rsL13Caught (aj e10) x3.1 x3.2.1 x3.2.2.1).bind fun r11=>
      bif r11 then
       some (.inr (true))
      else
       some (.inl (x3.1,x3.2.1,x3.2.2.1,x3.2.2.2.1,x3.2.2.2.2.1,x3.2.2.2.2.2.1,x3.2.2.2.2.2.2.1,w64 (x3.2.2.2.2.2.2.2+1)))
    else
     (idx x3.2.2.2.2.2.2.1 x3.2.2.2.2.2.2.2).bind fun e12=>
     (rsL13Caught (aj e12) x3.1 x3.2.1 x3.2.2.1).bind fun r13=>
     bif r13 then
      some (.inr (true))
     else
      some (.inl (x3.1,x3.2.1,x3.2.2.1,x3.2.2.2.1,x3.2.2.2.2.1,x3.2.2.2.2.2.1,x3.2.2.2.2.2.2.1,w64 (x3.2.2.2.2.2.2.2+1)))
   else
    some (.inr (false))
 )
def BO(rsL13Caught:af->Str->Str->(List Str)->Option (Bool))(a:af)(b:Str)(c:Str)(d:List Str):Option (Bool):=bif (a.kind==3)then (kV d a.text).bind fun e=>bif (!e)then bif (a.text==b)then (kV d c).bind fun f=>some (f)else some (false)else au (Fg rsL13Caught) (b,c,d,a.kind,a.n,a.text,a.args,0)else au (Fg rsL13Caught) (b,c,d,a.kind,a.n,a.text,a.args,0)
def kz:Nat->(af->Str->Str->(List Str)->Option (Bool))
 | 0=>fun _ _ _ _=>none
 | n+1=>BO (kz n)
def F9(a:af)(b:Str)(c:Str)(d:List Str):Option (Bool):=(kz (siz a+siz d+1)) a b c d
def XL:Fsp:=⟨207,[shT .expr,shF .str,shF .str,slF .str],[shF .bool],true,false,fun x=>F9 x.1 x.2.1 x.2.2.1 x.2.2.2⟩
def Ff(n:Nat):Fsp:=⟨207,[shT .expr,shF .str,shF .str,slF .str],[shF .bool],true,false,fun x=>(kz n) x.1 x.2.1 x.2.2.1 x.2.2.2⟩
def lm(a:af)(b:Str)(c:Str):Option (Bool):=(F9 (aj a) b c []).bind fun d=>some (d)
def Uf:Fsp:=⟨166,[shT .expr,shF .str,shF .str],[shF .bool],true,false,fun x=>lm x.1 x.2.1 x.2.2⟩
def J4(rsL10Copy:af->Option (af))(a:af):Option (af):=au (fun(⟨e,f,g,h,i,j,k,l,m,o,p,q,r⟩:Int×Int×Str×(List af)×Int×Int×Str×(List af)×Int×Int×Str×(List af)×Int)=>bif (decide (r<(h.length:Int)))then (idx h r).bind fun d=>(rsL10Copy (aj d)).bind fun c=>(gd (q.length+[aj c].length)).bind fun _=>some (.inl (e,f,g,h,i,j,k,l,m,o,p,q++[aj c],w64 (r+1)))else some (.inr (af.mk m o p q))) (a.kind,a.n,a.text,a.args,0,0,[],[],a.kind,a.n,a.text,[],0)
def xw:Nat->(af->Option (af))
 | 0=>fun _=>none
 | n+1=>J4 (xw n)
def xA(a:af):Option (af):=(xw (siz a+1)) a
def adE:Fsp:=⟨208,[shT .expr],[shT .expr],true,false,fun x=>xA x⟩
def MG(n:Nat):Fsp:=⟨208,[shT .expr],[shT .expr],true,false,fun x=>(xw n) x⟩
def wH(rsL13Rename:af->Str->Str->Option (af)):(Str×Str×Int×Int×Str×(List af)×Int×Int×Str×(List af)×Int×Int×Str×(List af)×Int)->Option ((Str×Str×Int×Int×Str×(List af)×Int×Int×Str×(List af)×Int×Int×Str×(List af)×Int)⊕(af)):=
(fun (x1:Str×Str×Int×Int×Str×(List af)×Int×Int×Str×(List af)×Int×Int×Str×(List af)×Int)=>
  bif (decide (x1.2.2.2.2.2.2.2.2.2.2.2.2.2.2<(x1.2.2.2.2.2.1.length:Int)))then
   bif (x1.2.2.1==7)then
    bif (x1.2.2.2.2.2.2.2.2.2.2.2.2.2.2==1)then
     bif (x1.2.2.2.2.1==x1.1)then
      (idx x1.2.2.2.2.2.1 x1.2.2.2.2.2.2.2.2.2.2.2.2.2.2).bind fun e2=>
      (xA (aj e2)).bind fun r3=>
      (gd (x1.2.2.2.2.2.2.2.2.2.2.2.2.2.1.length+[aj r3].length)).bind fun _=>
      some (.inl (x1.1,x1.2.1,x1.2.2.1,x1.2.2.2.1,x1.2.2.2.2.1,x1.2.2.2.2.2.1,x1.2.2.2.2.2.2.1,x1.2.2.2.2.2.2.2.1,x1.2.2.2.2.2.2.2.2.1,x1.2.2.2.2.2.2.2.2.2.1,x1.2.2.2.2.2.2.2.2.2.2.1,x1.2.2.2.2.2.2.2.2.2.2.2.1,x1.2.2.2.2.2.2.2.2.2.2.2.2.1,x1.2.2.2.2.2.2.2.2.2.2.2.2.2.1++[aj r3],w64 (x1.2.2.2.2.2.2.2.2.2.2.2.2.2.2+1)))
     else
      (idx x1.2.2.2.2.2.1 x1.2.2.2.2.2.2.2.2.2.2.2.2.2.2).bind fun e4=>
      (rsL13Rename (aj e4) x1.1 x1.2.1).bind fun r5=>
      (gd (x1.2.2.2.2.2.2.2.2.2.2.2.2.2.1.length+[aj r5].length)).bind fun _=>
      some (.inl (x1.1,x1.2.1,x1.2.2.1,x1.2.2.2.1,x1.2.2.2.2.1,x1.2.2.2.2.2.1,x1.2.2.2.2.2.2.1,x1.2.2.2.2.2.2.2.1,x1.2.2.2.2.2.2.2.2.1,x1.2.2.2.2.2.2.2.2.2.1,x1.2.2.2.2.2.2.2.2.2.2.1,x1.2.2.2.2.2.2.2.2.2.2.2.1,x1.2.2.2.2.2.2.2.2.2.2.2.2.1,x1.2.2.2.2.2.2.2.2.2.2.2.2.2.1++[aj r5],w64 (x1.2.2.2.2.2.2.2.2.2.2.2.2.2.2+1)))
    else
     (idx x1.2.2.2.2.2.1 x1.2.2.2.2.2.2.2.2.2.2.2.2.2.2).bind fun e6=>
     (rsL13Rename (aj e6) x1.1 x1.2.1).bind fun r7=>
     (gd (x1.2.2.2.2.2.2.2.2.2.2.2.2.2.1.length+[aj r7].length)).bind fun _=>
     some (.inl (x1.1,x1.2.1,x1.2.2.1,x1.2.2.2.1,x1.2.2.2.2.1,x1.2.2.2.2.2.1,x1.2.2.2.2.2.2.1,x1.2.2.2.2.2.2.2.1,x1.2.2.2.2.2.2.2.2.1,x1.2.2.2.2.2.2.2.2.2.1,x1.2.2.2.2.2.2.2.2.2.2.1,x1.2.2.2.2.2.2.2.2.2.2.2.1,x1.2.2.2.2.2.2.2.2.2.2.2.2.1,x1.2.2.2.2.2.2.2.2.2.2.2.2.2.1++[aj r7],w64 (x1.2.2.2.2.2.2.2.2.2.2.2.2.2.2+1)))
   else
   bif (x1.2.2.1==9)then
    bif (x1.2.2.2.2.2.2.2.2.2.2.2.2.2.2==1)then
     bif (x1.2.2.2.2.1==x1.1)then
      (idx x1.2.2.2.2.2.1 x1.2.2.2.2.2.2.2.2.2.2.2.2.2.2).bind fun e8=>
      (xA (aj e8)).bind fun r9=>
      (gd (x1.2.2.2.2.2.2.2.2.2.2.2.2.2.1.length+[aj r9].length)).bind fun _=>
      some (.inl (x1.1,x1.2.1,x1.2.2.1,x1.2.2.2.1,x1.2.2.2.2.1,x1.2.2.2.2.2.1,x1.2.2.2.2.2.2.1,x1.2.2.2.2.2.2.2.1,x1.2.2.2.2.2.2.2.2.1,x1.2.2.2.2.2.2.2.2.2.1,x1.2.2.2.2.2.2.2.2.2.2.1,x1.2.2.2.2.2.2.2.2.2.2.2.1,x1.2.2.2.2.2.2.2.2.2.2.2.2.1,x1.2.2.2.2.2.2.2.2.2.2.2.2.2.1++[aj r9],w64 (x1.2.2.2.2.2.2.2.2.2.2.2.2.2.2+1)))
     else
      (idx x1.2.2.2.2.2.1 x1.2.2.2.2.2.2.2.2.2.2.2.2.2.2).bind fun e10=>
      (rsL13Rename (aj e10) x1.1 x1.2.1).bind fun r11=>
      (gd (x1.2.2.2.2.2.2.2.2.2.2.2.2.2.1.length+[aj r11].length)).bind fun _=>
      some (.inl (x1.1,x1.2.1,x1.2.2.1,x1.2.2.2.1,x1.2.2.2.2.1,x1.2.2.2.2.2.1,x1.2.2.2.2.2.2.1,x1.2.2.2.2.2.2.2.1,x1.2.2.2.2.2.2.2.2.1,x1.2.2.2.2.2.2.2.2.2.1,x1.2.2.2.2.2.2.2.2.2.2.1,x1.2.2.2.2.2.2.2.2.2.2.2.1,x1.2.2.2.2.2.2.2.2.2.2.2.2.1,x1.2.2.2.2.2.2.2.2.2.2.2.2.2.1++[aj r11],w64 (x1.2.2.2.2.2.2.2.2.2.2.2.2.2.2+1)))
    else
     (idx x1.2.2.2.2.2.1 x1.2.2.2.2.2.2.2.2.2.2.2.2.2.2).bind fun e12=>
     (rsL13Rename (aj e12) x1.1 x1.2.1).bind fun r13=>
     (gd (x1.2.2.2.2.2.2.2.2.2.2.2.2.2.1.length+[aj r13].length)).bind fun _=>
     some (.inl (x1.1,x1.2.1,x1.2.2.1,x1.2.2.2.1,x1.2.2.2.2.1,x1.2.2.2.2.2.1,x1.2.2.2.2.2.2.1,x1.2.2.2.2.2.2.2.1,x1.2.2.2.2.2.2.2.2.1,x1.2.2.2.2.2.2.2.2.2.1,x1.2.2.2.2.2.2.2.2.2.2.1,x1.2.2.2.2.2.2.2.2.2.2.2.1,x1.2.2.2.2.2.2.2.2.2.2.2.2.1,x1.2.2.2.2.2.2.2.2.2.2.2.2.2.1++[aj r13],w64 (x1.2.2.2.2.2.2.2.2.2.2.2.2.2.2+1)))
   else
    (idx x1.2.2.2.2.2.1 x1.2.2.2.2.2.2.2.2.2.2.2.2.2.2).bind fun e14=>
    (rsL13Rename (aj e14) x1.1 x1.2.1).bind fun r15=>
    (gd (x1.2.2.2.2.2.2.2.2.2.2.2.2.2.1.length+[aj r15].length)).bind fun _=>
    some (.inl (x1.1,x1.2.1,x1.2.2.1,x1.2.2.2.1,x1.2.2.2.2.1,x1.2.2.2.2.2.1,x1.2.2.2.2.2.2.1,x1.2.2.2.2.2.2.2.1,x1.2.2.2.2.2.2.2.2.1,x1.2.2.2.2.2.2.2.2.2.1,x1.2.2.2.2.2.2.2.2.2.2.1,x1.2.2.2.2.2.2.2.2.2.2.2.1,x1.2.2.2.2.2.2.2.2.2.2.2.2.1,x1.2.2.2.2.2.2.2.2.2.2.2.2.2.1++[aj r15],w64 (x1.2.2.2.2.2.2.2.2.2.2.2.2.2.2+1)))
  else
   some (.inr (af.mk x1.2.2.2.2.2.2.2.2.2.2.1 x1.2.2.2.2.2.2.2.2.2.2.2.1 x1.2.2.2.2.2.2.2.2.2.2.2.2.1 x1.2.2.2.2.2.2.2.2.2.2.2.2.2.1))
 )
def vK(rsL13Rename:af->Str->Str->Option (af))(a:af)(b:Str)(c:Str):Option (af):=bif (a.kind==3)then bif (a.text==b)then au (wH rsL13Rename) (b,c,a.kind,a.n,a.text,a.args,0,0,[],[],a.kind,a.n,c,[],0)else au (wH rsL13Rename) (b,c,a.kind,a.n,a.text,a.args,0,0,[],[],a.kind,a.n,a.text,[],0)else au (wH rsL13Rename) (b,c,a.kind,a.n,a.text,a.args,0,0,[],[],a.kind,a.n,a.text,[],0)
def qM:Nat->(af->Str->Str->Option (af))
 | 0=>fun _ _ _=>none
 | n+1=>vK (qM n)
def F8(a:af)(b:Str)(c:Str):Option (af):=(qM (siz a+1)) a b c
def XK:Fsp:=⟨167,[shT .expr,shF .str,shF .str],[shT .expr],true,false,fun x=>F8 x.1 x.2.1 x.2.2⟩
def Fe(n:Nat):Fsp:=⟨167,[shT .expr,shF .str,shF .str],[shT .expr],true,false,fun x=>(qM n) x.1 x.2.1 x.2.2⟩
def jZ(a:af)(b:Str)(c:Str):Option (af×Bool):=(iL (aj a)).bind fun d=>bif (!d)then some (af.mk 0 0 [] [],false)else (bM b).bind fun e=>bif (!e)then some (af.mk 0 0 [] [],false)else (bM c).bind fun f=>bif (!f)then some (af.mk 0 0 [] [],false)else (lm (aj a) b c).bind fun g=>bif g then some (af.mk 0 0 [] [],false)else (F8 (aj a) b c).bind fun h=>some (aj h,true)
def TR:Fsp:=⟨122,[shT .expr,shF .str,shF .str],[shT .expr,shF .bool],true,false,fun x=>jZ x.1 x.2.1 x.2.2⟩
def aas(a:List Str)(b:Str):Option (Str):=au (fun(⟨f,g,h,i⟩:(List Str)×Str×(List Int)×Int)=>bif (decide (i<(f.length:Int)))then bif (decide (i>0))then (gd (h.length+(mD g).length)).bind fun _=>(idx f i).bind fun d=>(gd ((h++(mD g)).length+(mD d).length)).bind fun _=>some (.inl (f,g,(h++(mD g))++(mD d),w64 (i+1)))else (idx f i).bind fun e=>(gd (h.length+(mD e).length)).bind fun _=>some (.inl (f,g,h++(mD e),w64 (i+1)))else some (.inr (bytesOf h))) (a,b,[],0)
def alz:Fsp:=⟨257,[slF .str,shF .str],[shF .str],true,false,fun x=>aas x.1 x.2⟩
def wY(a:af):Option (Int):=bif (a.kind==7)then some (0)else bif (a.kind==8)then some (0)else bif (a.kind==9)then some (0)else bif (a.kind==6)then bif (a.n==4)then some (1)else bif (a.n==5)then some (1)else bif (a.n==1)then some (2)else bif (a.n==2)then some (2)else bif (a.n==3)then some (3)else some (4)else some (4)
def ac8:Fsp:=⟨211,[shT .expr],[shF .int],true,false,fun x=>wY x⟩
def D8(a:Int):Option (Str):=(lZ a 1 5).bind fun b=>bif (!b)then some ([63])else (idx ([[],[43],[45],[42],[60],[61,61]]:List Str) a).bind fun _=>(([[],[43],[45],[42],[60],[61,61]]:List Str)[a.toNat]?).bind fun c=>some (c)
def Z9:Fsp:=⟨213,[shF .int],[shF .str],true,false,fun x=>D8 x⟩
def JX(rsL12Text:af->Option (Str))(rsL12List:(List af)->Option (Str))(rsL12At:af->Int->Option (Str))(a:af):Option (Str):=bif (a.kind==1)then (fV a.n).bind fun A=>some (A)else bif (a.kind==2)then (gd ([34].length+a.text.length)).bind fun _=>(gd (([34]++a.text).length+[34].length)).bind fun _=>some (([34]++a.text)++[34])else bif (a.kind==3)then some (a.text)else bif (a.kind==4)then (rsL12List a.args).bind fun p=>(gd ([91].length+p.length)).bind fun _=>(gd (([91]++p).length+[93].length)).bind fun _=>some (([91]++p)++[93])else bif (a.kind==5)then (gd (a.text.length+[40].length)).bind fun _=>(rsL12List a.args).bind fun q=>(gd ((a.text++[40]).length+q.length)).bind fun _=>(gd (((a.text++[40])++q).length+[41].length)).bind fun _=>some (((a.text++[40])++q)++[41])else bif (a.kind==7)then (gd ([108,101,116,32].length+a.text.length)).bind fun _=>(gd (([108,101,116,32]++a.text).length+[32,61,32].length)).bind fun _=>(idx a.args 0).bind fun B=>(rsL12Text (aj B)).bind fun m=>(gd ((([108,101,116,32]++a.text)++[32,61,32]).length+m.length)).bind fun _=>(gd (((([108,101,116,32]++a.text)++[32,61,32])++m).length+[32,105,110,32].length)).bind fun _=>(idx a.args 1).bind fun C=>(rsL12Text (aj C)).bind fun z=>(gd ((((([108,101,116,32]++a.text)++[32,61,32])++m)++[32,105,110,32]).length+z.length)).bind fun _=>some ((((([108,101,116,32]++a.text)++[32,61,32])++m)++[32,105,110,32])++z)else bif (a.kind==9)then (gd ([102,111,114,32].length+a.text.length)).bind fun _=>(gd (([102,111,114,32]++a.text).length+[32,105,110,32].length)).bind fun _=>(idx a.args 0).bind fun D=>(rsL12Text (aj D)).bind fun o=>(gd ((([102,111,114,32]++a.text)++[32,105,110,32]).length+o.length)).bind fun _=>(gd (((([102,111,114,32]++a.text)++[32,105,110,32])++o).length+[32,100,111,32].length)).bind fun _=>(idx a.args 1).bind fun r=>(rsL12Text (aj r)).bind fun i=>(gd ((((([102,111,114,32]++a.text)++[32,105,110,32])++o)++[32,100,111,32]).length+i.length)).bind fun _=>some ((((([102,111,114,32]++a.text)++[32,105,110,32])++o)++[32,100,111,32])++i)else bif (a.kind==8)then (idx a.args 0).bind fun s=>(rsL12Text (aj s)).bind fun b=>(gd ([105,102,32].length+b.length)).bind fun _=>(gd (([105,102,32]++b).length+[32,116,104,101,110,32].length)).bind fun _=>(idx a.args 1).bind fun t=>(rsL12Text (aj t)).bind fun e=>(gd ((([105,102,32]++b)++[32,116,104,101,110,32]).length+e.length)).bind fun _=>(gd (((([105,102,32]++b)++[32,116,104,101,110,32])++e).length+[32,101,108,115,101,32].length)).bind fun _=>(idx a.args 2).bind fun u=>(rsL12Text (aj u)).bind fun j=>(gd ((((([105,102,32]++b)++[32,116,104,101,110,32])++e)++[32,101,108,115,101,32]).length+j.length)).bind fun _=>some ((((([105,102,32]++b)++[32,116,104,101,110,32])++e)++[32,101,108,115,101,32])++j)else (wY (aj a)).bind fun f=>bif (f==1)then (idx a.args 0).bind fun v=>(rsL12At (aj v) 2).bind fun c=>(gd (c.length+[32].length)).bind fun _=>(D8 a.n).bind fun g=>(gd ((c++[32]).length+g.length)).bind fun _=>(gd (((c++[32])++g).length+[32].length)).bind fun _=>(idx a.args 1).bind fun w=>(rsL12At (aj w) (w64 (f+1))).bind fun k=>(gd ((((c++[32])++g)++[32]).length+k.length)).bind fun _=>some ((((c++[32])++g)++[32])++k)else (idx a.args 0).bind fun x=>(rsL12At (aj x) f).bind fun d=>(gd (d.length+[32].length)).bind fun _=>(D8 a.n).bind fun h=>(gd ((d++[32]).length+h.length)).bind fun _=>(gd (((d++[32])++h).length+[32].length)).bind fun _=>(idx a.args 1).bind fun y=>(rsL12At (aj y) (w64 (f+1))).bind fun l=>(gd ((((d++[32])++h)++[32]).length+l.length)).bind fun _=>
 some ((((d++[32])++h)++[32])++l)
def JY(rsL12Text:af->Option (Str))(rsL12List:(List af)->Option (Str))(rsL12At:af->Int->Option (Str))(a:List af):Option (Str):=au (fun(⟨f,g,h⟩:(List af)×(List Str)×Int)=>bif (decide (h<(f.length:Int)))then (idx f h).bind fun d=>(rsL12Text (aj d)).bind fun c=>(gd (g.length+([c]:List Str).length)).bind fun _=>some (.inl (f,g++([c]:List Str),w64 (h+1)))else ((aas g [44,32]).bind fun e=>some (e)).bind fun r=>some (.inr r)) (a,[],0)
def XO(rsL12Text:af->Option (Str))(rsL12List:(List af)->Option (Str))(rsL12At:af->Int->Option (Str))(a:af)(b:Int):Option (Str):=(rsL12Text (aj a)).bind fun c=>(wY (aj a)).bind fun d=>bif (decide (d<b))then (gd ([40].length+c.length)).bind fun _=>(gd (([40]++c).length+[41].length)).bind fun _=>some (([40]++c)++[41])else some (c)
def cO:Nat->(af->Option (Str))×((List af)->Option (Str))×(af->Int->Option (Str))
 | 0=>(fun _=>none,fun _=>none,fun _ _=>none)
 | n+1=>(JX (cO n).1 (cO n).2.1 (cO n).2.2,JY (cO n).1 (cO n).2.1 (cO n).2.2,XO (cO n).1 (cO n).2.1 (cO n).2.2)
def PV(a:af):Option (Str):=(cO (siz a+1)).1 a
def ads:Fsp:=⟨168,[shT .expr],[shF .str],true,false,fun x=>PV x⟩
def Mc(n:Nat):Fsp:=⟨168,[shT .expr],[shF .str],true,false,fun x=>(cO n).1 x⟩
def aiP(a:List af):Option (Str):=(cO (siz a+1)).2.1 a
def adt:Fsp:=⟨210,[slF .expr],[shF .str],true,false,fun x=>aiP x⟩
def Md(n:Nat):Fsp:=⟨210,[slF .expr],[shF .str],true,false,fun x=>(cO n).2.1 x⟩
def apQ(a:af)(b:Int):Option (Str):=(cO (siz a+1)).2.2 a b
def aiQ:Fsp:=⟨212,[shT .expr,shF .int],[shF .str],true,false,fun x=>apQ x.1 x.2⟩
def VJ(n:Nat):Fsp:=⟨212,[shT .expr,shF .int],[shF .str],true,false,fun x=>(cO n).2.2 x.1 x.2⟩
def kD(a:af):Option (Str):=(iL (aj a)).bind fun b=>bif (!b)then some ([])else (PV (aj a)).bind fun c=>some (c)
def Ug:Fsp:=⟨123,[shT .expr],[shF .str],true,false,fun x=>kD x⟩
def kZ(a:Str)(b:Str)(c:Str):Option (Str):=(pz a).bind fun d=>bif (decide (d.2>=0))then some (a)else (um (aj d.1)).bind fun g=>(kV g b).bind fun h=>bif (!h)then some (a)else (jZ (aj d.1) b c).bind fun e=>(kD (aj e.1)).bind fun f=>bif (!e.2)then some (a)else bif (decide ((f.length:Int)>120))then some (a)else some (f)
def adb:Fsp:=⟨73,[shF .str,shF .str,shF .str],[shF .str],true,false,fun x=>kZ x.1 x.2.1 x.2.2⟩
def Gg(a:dP)(b:List GOp):Option (dP):=au (fun(⟨i,j,k,l,m,o,p,q,r,s,t,u,v,w,x,y,z,A⟩:(List GOp)×Int×Int×Int×Int×Int×Str×Str×Int×Int×Int×Int×Int×Int×Str×Str×Int×Int)=>bif (decide (A<(i.length:Int)))then (idx i A).bind fun d=>bif (p==d.src)then bif (j==4)then (kZ q d.src d.dst).bind fun e=>some (.inl (i,j,k,l,m,o,d.dst,e,r,s,t,u,v,w,x,y,z,w64 (A+1)))else bif (j==1)then bif (o==2)then (kZ q d.src d.dst).bind fun f=>some (.inl (i,j,k,l,m,o,d.dst,f,r,s,t,u,v,w,x,y,z,w64 (A+1)))else some (.inl (i,j,k,l,m,o,d.dst,q,r,s,t,u,v,w,x,y,z,w64 (A+1)))else some (.inl (i,j,k,l,m,o,d.dst,q,r,s,t,u,v,w,x,y,z,w64 (A+1)))else bif (j==4)then (kZ q d.src d.dst).bind fun g=>some (.inl (i,j,k,l,m,o,p,g,r,s,t,u,v,w,x,y,z,w64 (A+1)))else bif (j==1)then bif (o==2)then (kZ q d.src d.dst).bind fun h=>some (.inl (i,j,k,l,m,o,p,h,r,s,t,u,v,w,x,y,z,w64 (A+1)))else some (.inl (i,j,k,l,m,o,p,q,r,s,t,u,v,w,x,y,z,w64 (A+1)))else some (.inl (i,j,k,l,m,o,p,q,r,s,t,u,v,w,x,y,z,w64 (A+1)))else some (.inr (dP.mk j k (ah.mk l m o p q r)))
 ) (b,a.kind,a.pos,a.cell.id,a.cell.version,a.cell.kind,a.cell.name,a.cell.code,a.cell.n,0,0,0,0,0,[],[],0,0)
def X0:Fsp:=⟨28,[shT .edit,slF .op],[shT .edit],true,false,fun x=>Gg x.1 x.2⟩
def jG(a:ak)(b:Int):Option (Int):=au (fun(⟨e,f,g⟩:Int×(List ah)×Int)=>bif (decide (g<(f.length:Int)))then (idx f g).bind fun d=>bif (d.id==e)then some (.inr (g))else some (.inl (e,f,w64 (g+1)))else some (.inr ((-1)))) (b,a.cells,0)
def XY:Fsp:=⟨31,[shT .notebook,shF .int],[shF .int],true,false,fun x=>jG x.1 x.2⟩
def kL(a:Str):Option (Bool):=au (fun (b:Str×Int)=>bif (decide (b.2<(b.1.length:Int)))then (idx b.1 b.2).bind fun c=>bif (decide ((c.toNat:Int)<32))then some (.inr (false))else (idx b.1 b.2).bind fun d=>bif (decide ((d.toNat:Int)>126))then some (.inr (false))else some (.inl (b.1,w64 (b.2+1)))else some (.inr ((decide ((b.1.length:Int)<=120))))) (a,0)
def Qi:Fsp:=⟨124,[shF .str],[shF .bool],true,false,fun x=>kL x⟩
def dm(a:ah):Option (Bool):=(lZ a.id 1 999).bind fun b=>bif (!b)then some (false)else (lZ a.version 1 999).bind fun c=>bif (!c)then some (false)else (kL a.code).bind fun d=>bif (!d)then some (false)else bif (a.kind==1)then bif (a.name==[])then some ((a.n==0))else some (false)else bif (a.kind==2)then (bM a.name).bind fun e=>bif e then some ((a.n==0))else some (false)else bif (a.kind==4)then (bM a.name).bind fun f=>bif f then some ((a.n==0))else some (false)else bif (a.kind==3)then (bM a.name).bind fun g=>bif g then bif (a.code==[])then (lZ a.n 0 100).bind fun h=>some (h)else some (false)else some (false)else some (false)
def Qh:Fsp:=⟨76,[shT .cell],[shF .bool],true,false,fun x=>dm x⟩
def eU(a:ak):Option (Bool):=au (fun (b:(List ah)×Int)=>bif (decide (b.2<(b.1.length:Int)))then (idx b.1 b.2).bind fun c=>(dm c).bind fun d=>bif (!d)then some (.inr (false))else (idx b.1 b.2).bind fun e=>(jG (ak.mk b.1) e.id).bind fun f=>bif (f != b.2)then some (.inr (false))else some (.inl (b.1,w64 (b.2+1)))else some (.inr ((decide ((b.1.length:Int)<=8))))) (a.cells,0)
def Gf:Fsp:=⟨74,[shT .notebook],[shF .bool],true,false,fun x=>eU x⟩
def XJ(a:Int)(b:Int):Option (Int):=bif (decide (a<b))then some (a)else some (b)
def aiM:Fsp:=⟨127,[shF .int,shF .int],[shF .int],true,false,fun x=>XJ x.1 x.2⟩
def Ij(a:List ah)(b:Int)(c:ah):Option ((List ah)):=(XJ b (a.length:Int)).bind fun g=>(F7 0 g).bind fun e=>(eff.cutL a none (some e)).bind fun d=>(gd (0+d.length)).bind fun _=>(gd (([]++d).length+[c].length)).bind fun _=>(eff.cutL a (some e) none).bind fun f=>(gd ((([]++d)++[c]).length+f.length)).bind fun _=>some ((([]++d)++[c])++f)
def agL:Fsp:=⟨77,[slF .cell,shF .int,shT .cell],[slF .cell],true,false,fun x=>Ij x.1 x.2.1 x.2.2⟩
def BK(a:List ah)(b:Int):Option ((List ah)):=(eff.cutL a none (some b)).bind fun c=>(gd (0+c.length)).bind fun _=>(eff.cutL a (some (w64 (b+1))) none).bind fun d=>(gd (([]++c).length+d.length)).bind fun _=>some (([]++c)++d)
def adm:Fsp:=⟨78,[slF .cell,shF .int],[slF .cell],true,false,fun x=>BK x.1 x.2⟩
def BL(a:ah)(b:dP):Option (ah×Int):=bif (b.kind==4)then bif (a.kind==3)then some (a,5)else bif (b.kind != 5)then bif (a.version==999)then some (ah.mk a.id a.version a.kind b.cell.name b.cell.code a.n,6)else (dm (ah.mk a.id (w64 (a.version+1)) a.kind b.cell.name b.cell.code a.n)).bind fun c=>bif (!c)then some (ah.mk a.id (w64 (a.version+1)) a.kind b.cell.name b.cell.code a.n,1)else some (ah.mk a.id (w64 (a.version+1)) a.kind b.cell.name b.cell.code a.n,0)else (dm (ah.mk a.id a.version a.kind b.cell.name b.cell.code a.n)).bind fun d=>bif (!d)then some (ah.mk a.id a.version a.kind b.cell.name b.cell.code a.n,1)else some (ah.mk a.id a.version a.kind b.cell.name b.cell.code a.n,0)else bif (b.kind==5)then bif (a.kind != 3)then some (a,5)else bif (b.kind != 5)then bif (a.version==999)then some (ah.mk a.id a.version a.kind a.name a.code b.cell.n,6)else (dm (ah.mk a.id (w64 (a.version+1)) a.kind a.name a.code b.cell.n)).bind fun e=>bif (!e)then some (ah.mk a.id (w64 (a.version+1)) a.kind a.name a.code b.cell.n,1)else some (ah.mk a.id (w64 (a.version+1)) a.kind a.name a.code b.cell.n,0)else (dm (ah.mk a.id a.version a.kind a.name a.code b.cell.n)).bind fun f=>bif (!f)then some (ah.mk a.id a.version a.kind a.name a.code b.cell.n,1)else some (ah.mk a.id a.version a.kind a.name a.code b.cell.n,0)else bif (a.kind != 2)then some (a,5)else bif (b.kind != 5)then bif (a.version==999)then some (a,6)else (dm (ah.mk a.id (w64 (a.version+1)) a.kind a.name a.code a.n)).bind fun g=>bif (!g)then some (ah.mk a.id (w64 (a.version+1)) a.kind a.name a.code a.n,1)else some (ah.mk a.id (w64 (a.version+1)) a.kind a.name a.code a.n,0)else (dm a).bind fun h=>bif (!h)then some (a,1)else some (a,0)
def adn:Fsp:=⟨79,[shT .cell,shT .edit],[shT .cell,shF .int],true,false,fun x=>BL x.1 x.2⟩
def kM(a:ak)(b:dP):Option (ak×Int):=(iY a).bind fun c=>(eU a).bind fun h=>bif (!h)then some (c,1)else (lZ b.kind 1 6).bind fun i=>bif (!i)then some (c,1)else (jG a b.cell.id).bind fun d=>bif (b.kind==1)then (dm b.cell).bind fun j=>bif (!j)then some (c,1)else bif (decide (d>=0))then some (c,3)else bif ((a.cells.length:Int)==8)then some (c,4)else (Ij a.cells b.pos b.cell).bind fun k=>some (ak.mk k,0)else bif (decide (d<0))then some (c,2)else bif (b.kind==2)then (BK a.cells d).bind fun l=>some (ak.mk l,0)else bif (b.kind==3)then (BK a.cells d).bind fun m=>(idx a.cells d).bind fun n=>(Ij m b.pos n).bind fun f=>some (ak.mk f,0)else (idx a.cells d).bind fun g=>(BL g b).bind fun e=>bif (e.2==0)then (idx c.cells d).bind fun _=>(c.cells[d.toNat]?).bind fun o=>some (ak.mk (c.cells.set d.toNat e.1),e.2)else some (c,e.2)
def XZ:Fsp:=⟨29,[shT .notebook,shT .edit],[shT .notebook,shF .int],true,false,fun x=>kM x.1 x.2⟩
def mO(a:GOp):Option (Int):=some (w64 ((w64 (a.time*3))+a.by_))
def NF:Fsp:=⟨30,[shT .op],[shF .int],true,false,fun x=>mO x⟩
def lq(a:Int):Option (aF):=some (aF.mk 6 a 0 [] [] [] [])
def Uh:Fsp:=⟨215,[shF .int],[shT .val],true,false,fun x=>lq x⟩
def yY(a:Int):Option (aF):=some (aF.mk 1 a 0 [] [] [] [])
def PE:Fsp:=⟨216,[shF .int],[shT .val],true,false,fun x=>yY x⟩
def sS(a:Str):Option ((List Str)):=au (fun(⟨g,h,i,j⟩:Str×(List Str)×Int×Int)=>bif (decide ((w64 (j+1))<(g.length:Int)))then (idx g j).bind fun e=>bif ((e.toNat:Int)==59)then (idx g (w64 (j+1))).bind fun f=>bif ((f.toNat:Int)==32)then (eff.cutL g (some i) (some j)).bind fun c=>(gd (h.length+([c]:List Str).length)).bind fun _=>some (.inl (g,h++([c]:List Str),w64 (j+2),w64 (j+1)))else some (.inl (g,h,i,w64 (j+1)))else some (.inl (g,h,i,w64 (j+1)))else ((eff.cutL g (some i) none).bind fun d=>(gd (h.length+([d]:List Str).length)).bind fun _=>some (h++([d]:List Str))).bind fun r=>some (.inr r)) (a,[],0,0)
def aan:Fsp:=⟨258,[shF .str],[slF .str],true,false,fun x=>sS x⟩
def nJ(a:Str)(b:Int):Option ((List Str)):=au (fun(⟨g,h,i,j,k⟩:Str×Int×(List Str)×Int×Int)=>bif (decide (k<=(g.length:Int)))then bif (k==(g.length:Int))then (eff.cutL g (some j) (some k)).bind fun d=>(gd (i.length+([d]:List Str).length)).bind fun _=>some (.inl (g,h,i++([d]:List Str),w64 (k+1),w64 (k+1)))else (idx g k).bind fun f=>bif ((f.toNat:Int)==h)then (eff.cutL g (some j) (some k)).bind fun e=>(gd (i.length+([e]:List Str).length)).bind fun _=>some (.inl (g,h,i++([e]:List Str),w64 (k+1),w64 (k+1)))else some (.inl (g,h,i,j,w64 (k+1)))else some (.inr (i))) (a,b,[],0,0)
def Xy:Fsp:=⟨259,[shF .str,shF .u8],[slF .str],true,false,fun x=>nJ x.1 x.2⟩
def pI(a:Int):Option (Bool):=(lZ a (-1000000000) 1000000000).bind fun b=>some (b)
def aai:Fsp:=⟨284,[shF .int],[shF .bool],true,false,fun x=>pI x⟩
def Ed(a:Str)(b:Int):Option ((List Int)×Bool):=(nJ a 32).bind fun e=>au (fun(⟨h,i,j,k⟩:Int×(List Int)×(List Str)×Int)=>bif (decide (k<(j.length:Int)))then (idx j k).bind fun _=>(j[k.toNat]?).bind fun f=>(jP f).bind fun d=>bif (!d.2)then some (.inr (i,false))else (pI d.1).bind fun g=>bif (!g)then some (.inr (i,false))else (gd (i.length+[d.1].length)).bind fun _=>some (.inl (h,i++[d.1],j,w64 (k+1)))else some (.inr (i,((i.length:Int)==h)))) (b,[],e,0)
def agO:Fsp:=⟨260,[shF .str,shF .int],[slF .int,shF .bool],true,false,fun x=>Ed x.1 x.2⟩
def rV(a:List Str):Option (Bool):=au (fun (b:(List Str)×Int)=>bif (decide (b.2<(b.1.length:Int)))then (eff.cutL b.1 none (some b.2)).bind fun c=>(idx b.1 b.2).bind fun d=>(kV c d).bind fun e=>bif e then some (.inr (false))else some (.inl (b.1,w64 (b.2+1)))else some (.inr (true))) (a,0)
def Qk:Fsp:=⟨287,[slF .str],[shF .bool],true,false,fun x=>rV x⟩
def ul(a:List Str):Option (Bool):=au (fun (b:(List Str)×Int)=>bif (decide (b.2<(b.1.length:Int)))then (idx b.1 b.2).bind fun c=>(bM c).bind fun d=>bif (!d)then some (.inr (false))else some (.inl (b.1,w64 (b.2+1)))else ((lZ (b.1.length:Int) 1 4).bind fun e=>bif e then (rV b.1).bind fun f=>some (f)else some (false)).bind fun r=>some (.inr r)) (a,0)
def XH:Fsp:=⟨262,[slF .str],[shF .bool],true,false,fun x=>ul x⟩
def VH(a:bQ)(b:bQ):Option (Bool):=bif (decide (a.cell<b.cell))then some (true)else bif (a.cell==b.cell)then some ((decide (a.row<b.row)))else some (false)
def aaj:Fsp:=⟨333,[shT .origin,shT .origin],[shF .bool],true,false,fun x=>VH x.1 x.2⟩
def rQ(a:List bQ):Option (Bool):=au (fun (b:(List bQ)×Int)=>bif (decide (b.2<(b.1.length:Int)))then (idx b.1 b.2).bind fun c=>bif (decide (c.cell<0))then some (.inr (false))else (idx b.1 b.2).bind fun d=>bif (decide (d.row<0))then some (.inr (false))else bif (decide (b.2>0))then (idx b.1 (w64 (b.2-1))).bind fun e=>(idx b.1 b.2).bind fun f=>(VH e f).bind fun g=>bif (!g)then some (.inr (false))else some (.inl (b.1,w64 (b.2+1)))else some (.inl (b.1,w64 (b.2+1)))else some (.inr (true))) (a,0)
def PL:Fsp:=⟨306,[slF .origin],[shF .bool],true,false,fun x=>rQ x⟩
def Ih(a:aF):Option (Bool):=(ul a.columns).bind fun e=>bif (!e)then some (false)else bif (decide ((a.rows.length:Int)>12))then some (false)else au (fun(⟨i,j,k,l,m,o,p,q⟩:Int×Int×Int×Str×(List aF)×(List Str)×(List bD)×Int)=>bif (decide (q<(p.length:Int)))then (idx p q).bind fun d=>bif ((d.cells.length:Int) != (o.length:Int))then some (.inr (false))else (rQ d.orig).bind fun f=>bif (!f)then some (.inr (false))else au (fun(⟨c,s,t,u,v,w,x,y,z,A,B⟩:Int×Int×Int×Str×(List aF)×(List Str)×(List bD)×Int×(List Int)×(List bQ)×Int)=>bif (decide (B<(z.length:Int)))then (idx z B).bind fun g=>(pI g).bind fun h=>bif (!h)then (some (.inr (false))).bind fun r=>some (.inr r)else some (.inl (c,s,t,u,v,w,x,y,z,A,w64 (B+1)))else some (.inr (.inl (c,s,t,u,v,w,x,w64 (y+1))))) (i,j,k,l,m,o,p,q,d.cells,d.orig,0)else some (.inr (true))) (a.kind,a.n,a.step,a.text,a.list,a.columns,a.rows,0)
def adh:Fsp:=⟨286,[shT .val],[shF .bool],true,false,fun x=>Ih x⟩
def jQ(a:aF):Option (Bool):=bif (!(a.text==[]))then some (false)else bif (a.step != 0)then some (false)else bif (a.n==0)then (Ih (aF.mk 5 a.n a.step a.text [] a.columns a.rows)).bind fun b=>some (b)else some (false)
def qm(a:aF):Option (Bool):=bif (a.kind==5)&&a.list.isEmpty then jQ a else none
def iH:Fsp:=⟨261,[shT .val],[shF .bool],true,false,fun x=>qm x⟩
def uj(a:Str):Option (aF×Bool):=(sS a).bind fun c=>(idx c 0).bind fun _=>(c[0]?).bind fun e=>(nJ e 32).bind fun f=>au (fun(⟨i,j,k,l,m,n,o,p,q,s,t,u,v,w,x,y⟩:Int×Int×Int×Str×(List aF)×(List Str)×(List bD)×(List Str)×Int×Int×Int×Str×(List aF)×(List Str)×(List bD)×Int)=>bif (decide (y<(p.length:Int)))then (idx p y).bind fun _=>(p[y.toNat]?).bind fun g=>(Ed g (w.length:Int)).bind fun d=>bif (!d.2)then some (.inr (aF.mk 0 0 0 [] [] [] [],false))else (gd (x.length+([bD.mk d.1 []]).length)).bind fun _=>some (.inl (i,j,k,l,m,n,o,p,q,s,t,u,v,w,x++([bD.mk d.1 []]),w64 (y+1)))else ((qm (aF.mk q s t u v w x)).bind fun h=>bif (!h)then some (aF.mk 0 0 0 [] [] [] [],false)else some (aF.mk q s t u v w x,true)).bind fun r=>some (.inr r)) (0,0,0,[],[],[],[],c,5,0,0,[],[],f,[],1)
def XE:Fsp:=⟨217,[shF .str],[shT .val,shF .bool],true,false,fun x=>uj x⟩
def zi(a:Str):Option (Int):=(sS a).bind fun c=>(idx c 0).bind fun _=>(c[0]?).bind fun e=>(nJ e 32).bind fun d=>(ul d).bind fun f=>bif (!f)then some (0)else au (fun(⟨i,j,k⟩:(List Str)×(List Str)×Int)=>bif (decide (k<(i.length:Int)))then (idx i k).bind fun _=>(i[k.toNat]?).bind fun g=>(Ed g (j.length:Int)).bind fun h=>bif (!h.2)then some (.inr (k))else bif (decide (k>12))then some (.inr (k))else some (.inl (i,j,w64 (k+1)))else some (.inr ((-1)))) (c,d,1)
def XW:Fsp:=⟨218,[shF .str],[shF .int],true,false,fun x=>zi x⟩
def rP(a:Int)(b:aF):Option (aF):=bif (b.kind != 5)then (lq 4).bind fun e=>some (dD e)else (qm (dD b)).bind fun f=>bif (!f)then (lq 4).bind fun g=>some (dD g)else bif (decide (a<0))then (lq 4).bind fun h=>some (dD h)else (D9 (dD b)).bind fun d=>au (fun(⟨j,k,l,m,o,p,q,r,s,t,u,v,w,x,y,z⟩:Int×Int×Int×Int×Str×(List aF)×(List Str)×(List bD)×Int×Int×Int×Str×(List aF)×(List Str)×(List bD)×Int)=>bif (decide (z<(y.length:Int)))then (idx y z).bind fun _=>(y[z.toNat]?).bind fun i=>some (.inl (j,k,l,m,o,p,q,r,s,t,u,v,w,x,y.set z.toNat (bD.mk i.cells [bQ.mk j z]),w64 (z+1)))else some (.inr (aF.mk s t u v w x y))) (a,0,0,0,[],[],[],[],d.kind,d.n,d.step,d.text,d.list,d.columns,d.rows,0)
def Pz:Fsp:=⟨219,[shF .int,shT .val],[shT .val],true,false,fun x=>rP x.1 x.2⟩
def lQ(a:ah):Option (bH):=(dm a).bind fun d=>bif (!d)then some (bH.mk 0 [] (af.mk 0 0 [] []) (aF.mk 0 0 0 [] [] [] []) 0)else bif (a.kind==2)then (pz a.code).bind fun b=>bif (decide (b.2>=0))then (lq 8).bind fun e=>some (bH.mk 4 a.name (af.mk 0 0 [] []) (dD e) b.2)else some (bH.mk 2 a.name (aj b.1) (aF.mk 0 0 0 [] [] [] []) 0)else bif (a.kind==3)then (yY a.n).bind fun f=>some (bH.mk 3 a.name (af.mk 0 0 [] []) (dD f) 0)else bif (a.kind==4)then (uj a.code).bind fun c=>bif (!c.2)then (lq 8).bind fun g=>(zi a.code).bind fun h=>some (bH.mk 4 a.name (af.mk 0 0 [] []) (dD g) h)else (rP a.id (dD c.1)).bind fun i=>some (bH.mk 3 a.name (af.mk 0 0 [] []) (dD i) 0)else some (bH.mk 1 [] (af.mk 0 0 [] []) (aF.mk 0 0 0 [] [] [] []) 0)
def Qj:Fsp:=⟨171,[shT .cell],[shT .part],false,false,fun x=>lQ x⟩
def og(a:ak):Option ((List bH)):=(eU a).bind fun d=>bif (!d)then some ([])else au (fun(⟨f,g,h⟩:(List ah)×(List bH)×Int)=>bif (decide (h<(f.length:Int)))then (idx f h).bind fun e=>(lQ e).bind fun c=>(gd (g.length+[jS c].length)).bind fun _=>some (.inl (f,g++[jS c],w64 (h+1)))else some (.inr (g))) (a.cells,[],0)
def Ui:Fsp:=⟨128,[shT .notebook],[slF .part],false,true,fun x=>og x⟩
def xC(a:List bH)(b:Str):Option ((List Int)):=au (fun(⟨f,g,h,i⟩:(List bH)×Str×(List Int)×Int)=>bif (decide (i<(f.length:Int)))then (idx f i).bind fun d=>bif (d.kind != 1)then (idx f i).bind fun e=>bif (e.name==g)then (gd (h.length+[i].length)).bind fun _=>some (.inl (f,g,h++[i],w64 (i+1)))else some (.inl (f,g,h,w64 (i+1)))else some (.inl (f,g,h,w64 (i+1)))else some (.inr (h))) (a,b,[],0)
def aav:Fsp:=⟨172,[slF .part,shF .str],[slF .int],true,false,fun x=>xC x.1 x.2⟩
def BB(a:List bH)(b:Str):Option (Int):=(xC a b).bind fun c=>bif ((c.length:Int)==0)then some ((-1))else bif ((c.length:Int)==1)then (idx c 0).bind fun _=>(c[0]?).bind fun d=>some (d)else some ((-2))
def ac2:Fsp:=⟨130,[slF .part,shF .str],[shF .int],true,false,fun x=>BB x.1 x.2⟩
def rO(a:bH):Option ((List Str)):=bif (a.kind != 2)then some ([])else (um (aj a.expr)).bind fun b=>some (b)
def agC:Fsp:=⟨131,[shT .part],[slF .str],true,false,fun x=>rO x⟩
def Ea(a:List bH)(b:Str)(c:Str):Option (Int):=(BB a b).bind fun e=>bif (decide (e<0))then some (2)else au (fun(⟨m,n,o,p,q⟩:(List bH)×Str×Str×Int×Int)=>bif (decide (q<(m.length:Int)))then (idx m q).bind fun f=>(rO (jS f)).bind fun g=>(kV g o).bind fun h=>bif h then some (.inr (3))else (idx m q).bind fun i=>bif (i.kind==2)then (idx m q).bind fun j=>(lm (aj j.expr) n o).bind fun k=>bif k then some (.inl (m,n,o,4,w64 (q+1)))else some (.inl (m,n,o,p,w64 (q+1)))else some (.inl (m,n,o,p,w64 (q+1)))else ((xC m o).bind fun l=>bif (decide ((l.length:Int)>0))then some (3)else some (p)).bind fun r=>some (.inr r)) (a,b,c,0,0)
def aak:Fsp:=⟨129,[slF .part,shF .str,shF .str],[shF .int],true,false,fun x=>Ea x.1 x.2.1 x.2.2⟩
def ng(a:ak)(b:Str)(c:Str):Option (ak×Int):=(iY a).bind fun i=>(eU a).bind fun A=>bif (!A)then some (i,1)else (bM b).bind fun B=>bif (!B)then some (i,1)else (bM c).bind fun C=>bif (!C)then some (i,1)else bif (b==c)then some (i,1)else (og a).bind fun k=>(Ea k b c).bind fun l=>bif (l != 0)then some (i,l)else (BB k b).bind fun m=>(idx i.cells m).bind fun _=>(i.cells[m.toNat]?).bind fun j=>au (fun(⟨D,E,F,G,H,I,J,K⟩:Str×Str×(List ah)×(List ah)×(List ah)×(List bH)×Int×Int)=>bif (decide (K<(I.length:Int)))then (idx I K).bind fun _=>(I[K.toNat]?).bind fun o=>(rO (jS o)).bind fun p=>(kV p D).bind fun q=>bif (!q)then some (.inl (D,E,F,G,H,I,J,w64 (K+1)))else (idx I K).bind fun _=>(I[K.toNat]?).bind fun s=>(jZ (aj s.expr) D E).bind fun t=>(kD (aj t.1)).bind fun f=>(idx H K).bind fun _=>(H[K.toNat]?).bind fun e=>(idx (H.set K.toNat (ah.mk e.id e.version e.kind e.name f e.n)) K).bind fun _=>((H.set K.toNat (ah.mk e.id e.version e.kind e.name f e.n))[K.toNat]?).bind fun u=>bif (decide ((u.code.length:Int)>120))then (iY (ak.mk F)).bind fun v=>some (.inr (v,5))else (idx (H.set K.toNat (ah.mk e.id e.version e.kind e.name f e.n)) K).bind fun _=>((H.set K.toNat (ah.mk e.id e.version e.kind e.name f e.n))[K.toNat]?).bind fun w=>bif (w.version==999)then (idx (H.set K.toNat (ah.mk e.id e.version e.kind e.name f e.n)) K).bind fun _=>((H.set K.toNat (ah.mk e.id e.version e.kind e.name f e.n))[K.toNat]?).bind fun x=>(idx (H.set K.toNat (ah.mk e.id e.version e.kind e.name f e.n)) K).bind fun _=>((H.set K.toNat (ah.mk e.id e.version e.kind e.name f e.n))[K.toNat]?).bind fun g=>some (.inl (D,E,F,G,(H.set K.toNat (ah.mk e.id e.version e.kind e.name f e.n)).set K.toNat (ah.mk g.id (w64 (x.version+1)) g.kind g.name g.code g.n),I,6,w64 (K+1)))else (idx (H.set K.toNat (ah.mk e.id e.version e.kind e.name f e.n)) K).bind fun _=>((H.set K.toNat (ah.mk e.id e.version e.kind e.name f e.n))[K.toNat]?).bind fun y=>(idx (H.set K.toNat (ah.mk e.id e.version e.kind e.name f e.n)) K).bind fun _=>((H.set K.toNat (ah.mk e.id e.version e.kind e.name f e.n))[K.toNat]?).bind fun h=>some (.inl (D,E,F,G,(H.set K.toNat (ah.mk e.id e.version e.kind e.name f e.n)).set K.toNat (ah.mk h.id (w64 (y.version+1)) h.kind h.name h.code h.n),I,J,w64 (K+1)))else (bif (J != 0)then (iY (ak.mk F)).bind fun z=>some (z,J)else some (ak.mk H,0)).bind fun r=>some (.inr r)) (b,c,a.cells,[],i.cells.set m.toNat (ah.mk j.id j.version j.kind c j.code j.n),k,l,0)
def Ic:Fsp:=⟨80,[shT .notebook,shF .str,shF .str],[shT .notebook,shF .int],true,false,fun x=>ng x.1 x.2.1 x.2.2⟩
def pG(a:ak)(b:Str)(c:Str):Option (ak×Bool):=(iY a).bind fun i=>au (fun(⟨k,l,m,o,p,q⟩:Str×Str×(List ah)×(List ah)×(List ah)×Int)=>bif (decide (q<(p.length:Int)))then (idx p q).bind fun _=>(p[q.toNat]?).bind fun f=>some (.inl (k,l,m,o,p.set q.toNat (ah.mk f.id 1 f.kind f.name f.code f.n),w64 (q+1)))else ((ng (ak.mk p) k l).bind fun h=>au (fun(⟨d,s,t,u,v⟩:(List ah)×(List ah)×(List ah)×Int×Int)=>bif (decide (v<(t.length:Int)))then (idx d v).bind fun j=>(idx t v).bind fun _=>(t[v.toNat]?).bind fun g=>some (.inl (d,s,t.set v.toNat (ah.mk g.id j.version g.kind g.name g.code g.n),u,w64 (v+1)))else some (.inr (ak.mk t,(u==0)))) (m,o,h.1.cells,h.2,0)).bind fun r=>some (.inr r)) (b,c,a.cells,[],i.cells,0)
def XG:Fsp:=⟨32,[shT .notebook,shF .str,shF .str],[shT .notebook,shF .bool],true,false,fun x=>pG x.1 x.2.1 x.2.2⟩
def adl(a:List aJ)(b:Int)(c:Int):Option (Int):=au (fun(⟨g,h,i,j⟩:(List aJ)×Int×Int×Int)=>bif (decide (j<(g.length:Int)))then (idx g j).bind fun e=>bif (e.cell==h)then (idx g j).bind fun f=>bif (f.version==i)then some (.inr (j))else some (.inl (g,h,i,w64 (j+1)))else some (.inl (g,h,i,w64 (j+1)))else some (.inr ((-1)))) (a,b,c,0)
def aiL:Fsp:=⟨82,[slF .tape,shF .int,shF .int],[shF .int],true,false,fun x=>adl x.1 x.2.1 x.2.2⟩
def BM(a:aO)(b:aO):Option (Bool):=bif (a.kind==b.kind)then bif (a.n==b.n)then bif (a.text==b.text)then some ((a.time==b.time))else some (false)else some (false)else some (false)
def adp:Fsp:=⟨174,[shT .read,shT .read],[shF .bool],true,false,fun x=>BM x.1 x.2⟩
def Ef(a:List aO)(b:aO):Option (aF×Bool):=au (fun(⟨h,i,j,k,l,m,o,p,q,r,s,t,u,v,w,x,y,z,A,B⟩:(List aO)×Int×Int×Int×Str×Int×Int×Int×Str×(List aF)×(List Str)×(List bD)×Int×Int×Int×Str×(List aF)×(List Str)×(List bD)×Int)=>bif (decide (B<(h.length:Int)))then (idx h B).bind fun d=>(BM (iZ d) (aO.mk i j k l (aF.mk m o p q r s t))).bind fun e=>bif e then (idx h B).bind fun f=>(D9 (dD f.result)).bind fun g=>some (.inr (dD g,true))else some (.inl (h,i,j,k,l,m,o,p,q,r,s,t,u,v,w,x,y,z,A,w64 (B+1)))else some (.inr (aF.mk 0 0 0 [] [] [] [],false))) (a,b.kind,b.n,b.time,b.text,b.result.kind,b.result.n,b.result.step,b.result.text,b.result.list,b.result.columns,b.result.rows,0,0,0,[],[],[],[],0)
def aau:Fsp:=⟨133,[slF .read,shT .read],[shT .val,shF .bool],true,false,fun x=>Ef x.1 x.2⟩
def qK(a:List aO)(b:List aO):Option ((List aO)):=(sU a).bind fun e=>au (fun(⟨i,j,k⟩:(List aO)×(List aO)×Int)=>bif (decide (k<(i.length:Int)))then (idx i k).bind fun f=>(Ef j (iZ f)).bind fun g=>bif (!g.2)then (idx i k).bind fun h=>(BN (iZ h)).bind fun d=>(gd (j.length+[iZ d].length)).bind fun _=>some (.inl (i,j++[iZ d],w64 (k+1)))else some (.inl (i,j,w64 (k+1)))else some (.inr (j))) (b,e,0)
def TS:Fsp:=⟨83,[slF .read,slF .read],[slF .read],true,false,fun x=>qK x.1 x.2⟩
def yZ(a:aJ)(b:aJ):Option (Bool):=bif (decide (a.cell<b.cell))then some (true)else bif (a.cell==b.cell)then some ((decide (a.version<b.version)))else some (false)
def XI:Fsp:=⟨84,[shT .tape,shT .tape],[shF .bool],true,false,fun x=>yZ x.1 x.2⟩
def BD(a:List aJ)(b:Int)(c:Int)(d:List aO):Option ((List aJ)):=(Ii a).bind fun h=>(adl a b c).bind fun i=>bif (decide (i>=0))then (idx h i).bind fun _=>(h[i.toNat]?).bind fun m=>(qK m.reads d).bind fun n=>(idx h i).bind fun _=>(h[i.toNat]?).bind fun l=>some (h.set i.toNat (aJ.mk l.cell l.version n))else bif ((d.length:Int)==0)then some (h)else (qK [] d).bind fun o=>au (fun(⟨p,q,s,t,u⟩:(List aJ)×Int×Int×(List aO)×Int)=>bif (decide (u<(p.length:Int)))then (idx p u).bind fun _=>(p[u.toNat]?).bind fun j=>(yZ (aJ.mk q s t) j).bind fun k=>bif (!k)then some (.inl (p,q,s,t,w64 (u+1)))else ((cutAt p u).bind fun f=>((if u=(f:Int)then some ()else none)).bind fun _=>(gd (0+(p.take f).length)).bind fun _=>(gd (([]++(p.take f)).length+[aJ.mk q s t].length)).bind fun _=>((if u=(f:Int)then some ()else none)).bind fun _=>(gd ((([]++(p.take f))++[aJ.mk q s t]).length+(p.drop f).length)).bind fun _=>some ((([]++(p.take f))++[aJ.mk q s t])++(p.drop f))).bind fun r=>some (.inr r)else ((cutAt p u).bind fun g=>((if u=(g:Int)then some ()else none)).bind fun _=>(gd (0+(p.take g).length)).bind fun _=>(gd (([]++(p.take g)).length+[aJ.mk q s t].length)).bind fun _=>((if u=(g:Int)then some ()else none)).bind fun _=>(gd ((([]++(p.take g))++[aJ.mk q s t]).length+(p.drop g).length)).bind fun _=>some ((([]++(p.take g))++[aJ.mk q s t])++(p.drop g))).bind fun r=>some (.inr r)) (h,b,c,o,0)
def ac4:Fsp:=⟨34,[slF .tape,shF .int,shF .int,slF .read],[slF .tape],true,false,fun x=>BD x.1 x.2.1 x.2.2.1 x.2.2.2⟩
def jO(a:aN)(b:GOp)(c:List GOp):Option (aN):=(Ig a).bind fun d=>bif (b.kind==1)then (Gg b.edit c).bind fun h=>(kM a.notebook h).bind fun e=>bif (e.2 != 0)then some (d)else bif (h.kind==1)then (jG e.1 h.cell.id).bind fun m=>(mO b).bind fun r=>(idx e.1.cells m).bind fun _=>(e.1.cells[m.toNat]?).bind fun j=>some (aN.mk (ak.mk (e.1.cells.set m.toNat (ah.mk j.id r j.kind j.name j.code j.n))) d.tapes d.renames)else bif (h.kind==4)then (jG e.1 h.cell.id).bind fun o=>(mO b).bind fun s=>(idx e.1.cells o).bind fun _=>(e.1.cells[o.toNat]?).bind fun f=>some (aN.mk (ak.mk (e.1.cells.set o.toNat (ah.mk f.id s f.kind f.name f.code f.n))) d.tapes d.renames)else bif (h.kind==6)then (jG e.1 h.cell.id).bind fun i=>(mO b).bind fun p=>(idx e.1.cells i).bind fun _=>(e.1.cells[i.toNat]?).bind fun g=>some (aN.mk (ak.mk (e.1.cells.set i.toNat (ah.mk g.id p g.kind g.name g.code g.n))) d.tapes d.renames)else some (aN.mk e.1 d.tapes d.renames)else bif (b.kind==2)then (pG a.notebook b.src b.dst).bind fun k=>bif k.2 then (BG b).bind fun l=>(gd (d.renames.length+[l].length)).bind fun _=>some (aN.mk k.1 d.tapes (d.renames++[l]))else some (d)else bif (b.kind==3)then (BD d.tapes b.cell b.version b.reads).bind fun q=>some (aN.mk d.notebook q d.renames)else some (d)
def Z5:Fsp:=⟨8,[shT .document,shT .op,slF .op],[shT .document],true,false,fun x=>jO x.1 x.2.1 x.2.2⟩
def Xh(a:List Int):Option ((List Int)):=(mk (a.length:Int)).bind fun c=>au (fun(⟨f,g,h⟩:(List Int)×(List Int)×Int)=>bif (decide (h<(f.length:Int)))then (idx f h).bind fun d=>(idx g h).bind fun _=>(g[h.toNat]?).bind fun e=>some (.inl (f,g.set h.toNat d,w64 (h+1)))else some (.inr (g))) (a,List.replicate c 0,0)
def aij:Fsp:=⟨37,[slF .int],[slF .int],true,false,fun x=>Xh x⟩
def toCell(a:ah):Option (ah):=some (a)
def ail:Fsp:=⟨87,[shT .cell],[shT .cell],true,false,fun x=>toCell x⟩
def Xi(a:dP):Option (dP):=(toCell a.cell).bind fun b=>some (dP.mk a.kind a.pos b)
def aik:Fsp:=⟨38,[shT .edit],[shT .edit],true,false,fun x=>Xi x⟩
def JC(a:List Str):Option ((List Str)):=(mk (a.length:Int)).bind fun c=>au (fun(⟨f,g,h⟩:(List Str)×(List Str)×Int)=>bif (decide (h<(f.length:Int)))then (idx f h).bind fun d=>(idx g h).bind fun _=>(g[h.toNat]?).bind fun e=>some (.inl (f,g.set h.toNat d,w64 (h+1)))else some (.inr (g))) (a,List.replicate c [],0)
def ZJ:Fsp:=⟨176,[slF .str],[slF .str],true,false,fun x=>JC x⟩
def O4(a:bQ):Option (bQ):=some (a)
def acP:Fsp:=⟨288,[shT .origin],[shT .origin],true,false,fun x=>O4 x⟩
def JD(a:List bQ):Option ((List bQ)):=(mk (a.length:Int)).bind fun c=>au (fun(⟨g,h,i⟩:(List bQ)×(List bQ)×Int)=>bif (decide (i<(g.length:Int)))then (idx g i).bind fun d=>(O4 d).bind fun e=>(idx h i).bind fun _=>(h[i.toNat]?).bind fun f=>some (.inl (g,h.set i.toNat e,w64 (i+1)))else some (.inr (h))) (a,List.replicate c (bQ.mk 0 0),0)
def ZM:Fsp:=⟨263,[slF .origin],[slF .origin],true,false,fun x=>JD x⟩
def ae7(a:bD):Option (bD):=(Xh a.cells).bind fun b=>(JD a.orig).bind fun c=>some (bD.mk b c)
def ala:Fsp:=⟨221,[shT .row],[shT .row],true,false,fun x=>ae7 x⟩
def acN(a:List bD):Option ((List bD)):=(mk (a.length:Int)).bind fun c=>au (fun(⟨g,h,i⟩:(List bD)×(List bD)×Int)=>bif (decide (i<(g.length:Int)))then (idx g i).bind fun d=>(ae7 d).bind fun e=>(idx h i).bind fun _=>(h[i.toNat]?).bind fun f=>some (.inl (g,h.set i.toNat e,w64 (i+1)))else some (.inr (h))) (a,List.replicate c (bD.mk [] []),0)
def aie:Fsp:=⟨177,[slF .row],[slF .row],true,false,fun x=>acN x⟩
def O0(rtoValue:aF->Option (aF))(rtoValueS:(List aF)->Option ((List aF)))(a:aF):Option (aF):=(rtoValueS a.list).bind fun b=>(JC a.columns).bind fun c=>(acN a.rows).bind fun d=>some (aF.mk a.kind a.n a.step a.text b c d)
def JB(rtoValue:aF->Option (aF))(rtoValueS:(List aF)->Option ((List aF)))(a:List aF):Option ((List aF)):=(mk (a.length:Int)).bind fun c=>au (fun(⟨g,h,i⟩:(List aF)×(List aF)×Int)=>bif (decide (i<(g.length:Int)))then (idx g i).bind fun d=>(rtoValue (dD d)).bind fun e=>(idx h i).bind fun _=>(h[i.toNat]?).bind fun f=>some (.inl (g,h.set i.toNat (dD e),w64 (i+1)))else some (.inr (h))) (a,List.replicate c (aF.mk 0 0 0 [] [] [] []),0)
def iW:Nat->(aF->Option (aF))×((List aF)->Option ((List aF)))
 | 0=>(fun _=>none,fun _=>none)
 | n+1=>(O0 (iW n).1 (iW n).2,JB (iW n).1 (iW n).2)
def Xc(a:aF):Option (aF):=(iW (siz a+1)).1 a
def agf:Fsp:=⟨134,[shT .val],[shT .val],true,false,fun x=>Xc x⟩
def OZ(n:Nat):Fsp:=⟨134,[shT .val],[shT .val],true,false,fun x=>(iW n).1 x⟩
def aia(a:List aF):Option ((List aF)):=(iW (siz a+1)).2 a
def acM:Fsp:=⟨175,[slF .val],[slF .val],true,false,fun x=>aia x⟩
def LQ(n:Nat):Fsp:=⟨175,[slF .val],[slF .val],true,false,fun x=>(iW n).2 x⟩
def O3(a:aO):Option (aO):=(Xc (dD a.result)).bind fun b=>some (aO.mk a.kind a.n a.time a.text (dD b))
def aif:Fsp:=⟨88,[shT .read],[shT .read],true,false,fun x=>O3 x⟩
def Ht(a:List aO):Option ((List aO)):=(mk (a.length:Int)).bind fun c=>au (fun(⟨g,h,i⟩:(List aO)×(List aO)×Int)=>bif (decide (i<(g.length:Int)))then (idx g i).bind fun d=>(O3 (iZ d)).bind fun e=>(idx h i).bind fun _=>(h[i.toNat]?).bind fun f=>some (.inl (g,h.set i.toNat (iZ e),w64 (i+1)))else some (.inr (h))) (a,List.replicate c (aO.mk 0 0 0 [] (aF.mk 0 0 0 [] [] [] [])),0)
def agk:Fsp:=⟨39,[slF .read],[slF .read],true,false,fun x=>Ht x⟩
def ZN(a:GOp):Option (GOp):=(Xh a.seen).bind fun b=>(Xi a.edit).bind fun c=>(Ht a.reads).bind fun d=>some (GOp.mk a.time a.by_ a.kind b c a.src a.dst a.cell a.version d)
def apG:Fsp:=⟨10,[shT .op],[shT .op],true,false,fun x=>ZN x⟩
def Bo(a:List GOp):Option ((List GOp)):=(mk (a.length:Int)).bind fun c=>au (fun(⟨g,h,i⟩:(List GOp)×(List GOp)×Int)=>bif (decide (i<(g.length:Int)))then (idx g i).bind fun d=>(ZN d).bind fun e=>(idx h i).bind fun _=>(h[i.toNat]?).bind fun f=>some (.inl (g,h.set i.toNat e,w64 (i+1)))else some (.inr (h))) (a,List.replicate c (GOp.mk 0 0 0 [] (dP.mk 0 0 (ah.mk 0 0 0 [] [] 0)) [] [] 0 0 []),0)
def alc:Fsp:=⟨11,[slF .op],[slF .op],true,false,fun x=>Bo x⟩
def afa(a:List ah):Option ((List ah)):=(mk (a.length:Int)).bind fun c=>au (fun(⟨g,h,i⟩:(List ah)×(List ah)×Int)=>bif (decide (i<(g.length:Int)))then (idx g i).bind fun d=>(toCell d).bind fun e=>(idx h i).bind fun _=>(h[i.toNat]?).bind fun f=>some (.inl (g,h.set i.toNat e,w64 (i+1)))else some (.inr (h))) (a,List.replicate c (ah.mk 0 0 0 [] [] 0),0)
def agn:Fsp:=⟨85,[slF .cell],[slF .cell],true,false,fun x=>afa x⟩
def O5(a:ak):Option (ak):=(afa a.cells).bind fun b=>some (ak.mk b)
def Xf:Fsp:=⟨35,[shT .notebook],[shT .notebook],true,false,fun x=>O5 x⟩
def aic(a:aJ):Option (aJ):=(Ht a.reads).bind fun b=>some (aJ.mk a.cell a.version b)
def aib:Fsp:=⟨86,[shT .tape],[shT .tape],true,false,fun x=>aic x⟩
def ae6(a:List aJ):Option ((List aJ)):=(mk (a.length:Int)).bind fun c=>au (fun(⟨g,h,i⟩:(List aJ)×(List aJ)×Int)=>bif (decide (i<(g.length:Int)))then (idx g i).bind fun d=>(aic d).bind fun e=>(idx h i).bind fun _=>(h[i.toNat]?).bind fun f=>some (.inl (g,h.set i.toNat e,w64 (i+1)))else some (.inr (h))) (a,List.replicate c (aJ.mk 0 0 []),0)
def agh:Fsp:=⟨36,[slF .tape],[slF .tape],true,false,fun x=>ae6 x⟩
def tX(a:aN):Option (aN):=(O5 a.notebook).bind fun b=>(ae6 a.tapes).bind fun c=>(Bo a.renames).bind fun d=>some (aN.mk b c d)
def Xj:Fsp:=⟨9,[shT .document],[shT .document],true,false,fun x=>tX x⟩
def bT(a:ak):Option (ak):=(gd (0+a.cells.length)).bind fun _=>some (ak.mk ([]++a.cells))
def NZ:Fsp:=⟨89,[shT .notebook],[shT .notebook],true,false,fun x=>bT x⟩
def yA(a:bD):Option (bD):=(gd (0+a.cells.length)).bind fun _=>(gd (0+a.orig.length)).bind fun _=>some (bD.mk ([]++a.cells) ([]++a.orig))
def aex:Fsp:=⟨192,[shT .row],[shT .row],true,false,fun x=>yA x⟩
def qX(riCopyValue:aF->Option (aF))(riCopyValues:(List aF)->Option ((List aF)))(a:aF):Option (aF):=(riCopyValues a.list).bind fun d=>(gd (0+a.columns.length)).bind fun _=>au (fun(⟨f,g,h,i,j,k,l,m,o,p,q,r,s,t,u,v,w⟩:Int×Int×Int×Str×(List aF)×(List Str)×(List bD)×Int×Int×Int×Str×(List aF)×(List Str)×(List bD)×(List bD)×Int×Int)=>bif (decide (w<v))then (idx u w).bind fun e=>(yA e).bind fun c=>(gd (t.length+[c].length)).bind fun _=>some (.inl (f,g,h,i,j,k,l,m,o,p,q,r,s,t++[c],u,v,w64 (w+1)))else some (.inr (aF.mk m o p q r s t))) (0,0,0,[],[],[],[],a.kind,a.n,a.step,a.text,d,[]++a.columns,[],a.rows,(a.rows.length:Int),0)
def oU(riCopyValue:aF->Option (aF))(riCopyValues:(List aF)->Option ((List aF)))(a:List aF):Option ((List aF)):=au (fun(⟨e,f,g,h⟩:(List aF)×(List aF)×Int×Int)=>bif (decide (h<g))then (idx f h).bind fun d=>(riCopyValue (dD d)).bind fun c=>(gd (e.length+[dD c].length)).bind fun _=>some (.inl (e++[dD c],f,g,w64 (h+1)))else some (.inr (e))) ([],a,(a.length:Int),0)
def dG:Nat->(aF->Option (aF))×((List aF)->Option ((List aF)))
 | 0=>(fun _=>none,fun _=>none)
 | n+1=>(qX (dG n).1 (dG n).2,oU (dG n).1 (dG n).2)
def nS(a:aF):Option (aF):=(dG (siz a+1)).1 a
def YZ:Fsp:=⟨149,[shT .val],[shT .val],true,false,fun x=>nS x⟩
def FK(n:Nat):Fsp:=⟨149,[shT .val],[shT .val],true,false,fun x=>(dG n).1 x⟩
def abB(a:List aF):Option ((List aF)):=(dG (siz a+1)).2 a
def U1:Fsp:=⟨191,[slF .val],[slF .val],true,false,fun x=>abB x⟩
def Dn(n:Nat):Fsp:=⟨191,[slF .val],[slF .val],true,false,fun x=>(dG n).2 x⟩
def nT(a:List aO):Option ((List aO)):=au (fun(⟨e,f,g,h⟩:(List aO)×(List aO)×Int×Int)=>bif (decide (h<g))then (idx f h).bind fun c=>(nS (dD c.result)).bind fun d=>(gd (e.length+[aO.mk c.kind c.n c.time c.text (dD d)].length)).bind fun _=>some (.inl (e++[aO.mk c.kind c.n c.time c.text (dD d)],f,g,w64 (h+1)))else some (.inr (e))) ([],a,(a.length:Int),0)
def Y1:Fsp:=⟨97,[slF .read],[slF .read],true,false,fun x=>nT x⟩
def zY(a:List aJ):Option ((List aJ)):=au (fun(⟨e,f,g,h⟩:(List aJ)×(List aJ)×Int×Int)=>bif (decide (h<g))then (idx f h).bind fun c=>(nT c.reads).bind fun d=>(gd (e.length+[aJ.mk c.cell c.version d].length)).bind fun _=>some (.inl (e++[aJ.mk c.cell c.version d],f,g,w64 (h+1)))else some (.inr (e))) ([],a,(a.length:Int),0)
def Y0:Fsp:=⟨90,[slF .tape],[slF .tape],true,false,fun x=>zY x⟩
def EG(a:GOp):Option (GOp):=(gd (0+a.seen.length)).bind fun _=>(nT a.reads).bind fun b=>some (GOp.mk a.time a.by_ a.kind ([]++a.seen) a.edit a.src a.dst a.cell a.version b)
def ahx:Fsp:=⟨46,[shT .op],[shT .op],true,false,fun x=>EG x⟩
def Je(a:List GOp):Option ((List GOp)):=au (fun(⟨e,f,g,h⟩:(List GOp)×(List GOp)×Int×Int)=>bif (decide (h<g))then (idx f h).bind fun d=>(EG d).bind fun c=>(gd (e.length+[c].length)).bind fun _=>some (.inl (e++[c],f,g,w64 (h+1)))else some (.inr (e))) ([],a,(a.length:Int),0)
def aey:Fsp:=⟨91,[slF .op],[slF .op],true,false,fun x=>Je x⟩
def mW(a:aN):Option (aN):=(bT a.notebook).bind fun b=>(zY a.tapes).bind fun c=>(Je a.renames).bind fun d=>some (aN.mk b c d)
def N8:Fsp:=⟨40,[shT .document],[shT .document],true,false,fun x=>mW x⟩
def gU(a:ak)(b:Int):Option (Int):=au (fun(⟨e,f,g,h⟩:Int×(List ah)×Int×Int)=>bif (decide (h<g))then (idx f h).bind fun d=>bif (d.id==e)then some (.inr (h))else some (.inl (e,f,g,w64 (h+1)))else some (.inr ((-1)))) (b,a.cells,(a.cells.length:Int),0)
def Y5:Fsp:=⟨44,[shT .notebook,shF .int],[shF .int],true,false,fun x=>gU x.1 x.2⟩
def iF(a:Int)(b:Int)(c:Int):Option (Bool):=bif (decide (b<=a))then some ((decide (a<=c)))else some (false)
def ahn:Fsp:=⟨93,[shF .int,shF .int,shF .int],[shF .bool],true,false,fun x=>iF x.1 x.2.1 x.2.2⟩
def I8(a:Str):Option (Bool):=au (fun (b:Str×Int)=>bif (decide (b.2<(b.1.length:Int)))then (idx b.1 b.2).bind fun c=>bif (decide ((c.toNat:Int)>=97))then (idx b.1 b.2).bind fun d=>bif (!(decide ((d.toNat:Int)<=122)))then bif (b.2==0)then some (.inr (false))else (idx b.1 b.2).bind fun e=>bif (decide ((e.toNat:Int)<48))then some (.inr (false))else (idx b.1 b.2).bind fun f=>bif (decide ((f.toNat:Int)>57))then some (.inr (false))else some (.inl (b.1,w64 (b.2+1)))else some (.inl (b.1,w64 (b.2+1)))else bif (b.2==0)then some (.inr (false))else (idx b.1 b.2).bind fun g=>bif (decide ((g.toNat:Int)<48))then some (.inr (false))else (idx b.1 b.2).bind fun h=>bif (decide ((h.toNat:Int)>57))then some (.inr (false))else some (.inl (b.1,w64 (b.2+1)))else ((iF (b.1.length:Int) 1 8).bind fun i=>some (i)).bind fun r=>some (.inr r)) (a,0)
def ahu:Fsp:=⟨188,[shF .str],[shF .bool],true,false,fun x=>I8 x⟩
def fC(a:Str):Option (Int):=bif (a==[99,108,111,99,107])then some (0)else bif (a==[108,101,110])then some (1)else bif (a==[115,117,109])then some (1)else bif (a==[114,111,119,115])then some (1)else bif (a==[99,104,97,110,99,101])then some (1)else bif (a==[102,105,108,101])then some (1)else bif (a==[116,97,107,101])then some (2)else bif (a==[115,107,105,112])then some (2)else bif (a==[114,97,110,103,101])then some (2)else bif (a==[110,116,104])then some (2)else bif (a==[107,101,101,112])then some (2)else bif (a==[99,111,108,117,109,110])then some (2)else bif (a==[116,97,98,108,101])then some (2)else bif (a==[119,104,101,114,101])then some (3)else bif (a==[103,114,111,117,112])then some (3)else bif (a==[106,111,105,110])then some (3)else bif (a==[97,100,100])then some (4)else some ((-1))
def KU:Fsp:=⟨244,[shF .str],[shF .int],true,false,fun x=>fC x⟩
def oC(a:Str):Option (Bool):=bif (a==[108,101,116])then some (true)else bif (a==[105,110])then some (true)else bif (a==[105,102])then some (true)else bif (a==[116,104,101,110])then some (true)else bif (a==[101,108,115,101])then some (true)else bif (a==[102,111,114])then some (true)else bif (a==[100,111])then some (true)else (fC a).bind fun b=>some ((decide (b>=0)))
def UW:Fsp:=⟨189,[shF .str],[shF .bool],true,false,fun x=>oC x⟩
def bI(a:Str):Option (Bool):=(I8 a).bind fun b=>bif b then (oC a).bind fun c=>some ((!c))else some (false)
def RQ:Fsp:=⟨144,[shF .str],[shF .bool],true,false,fun x=>bI x⟩
def oQ(a:Str):Option (Bool):=au (fun (b:Str×Int)=>bif (decide (b.2<(b.1.length:Int)))then (idx b.1 b.2).bind fun c=>bif (decide ((c.toNat:Int)<32))then some (.inr (false))else (idx b.1 b.2).bind fun d=>bif (decide ((d.toNat:Int)>126))then some (.inr (false))else some (.inl (b.1,w64 (b.2+1)))else some (.inr ((decide ((b.1.length:Int)<=120))))) (a,0)
def RX:Fsp:=⟨178,[shF .str],[shF .bool],true,false,fun x=>oQ x⟩
def cZ(a:ah):Option (Bool):=(iF a.id 1 999).bind fun b=>bif (!b)then some (false)else (iF a.version 1 999).bind fun c=>bif (!c)then some (false)else (oQ a.code).bind fun d=>bif (!d)then some (false)else bif (a.kind==1)then bif (a.name==[])then some ((a.n==0))else some (false)else bif (a.kind==2)then (bI a.name).bind fun e=>bif e then some ((a.n==0))else some (false)else bif (a.kind==4)then (bI a.name).bind fun f=>bif f then some ((a.n==0))else some (false)else bif (a.kind==3)then (bI a.name).bind fun g=>bif g then bif (a.code==[])then (iF a.n 0 100).bind fun h=>some (h)else some (false)else some (false)else some (false)
def RV:Fsp:=⟨135,[shT .cell],[shF .bool],true,false,fun x=>cZ x⟩
def fH(a:ak):Option (Bool):=au (fun(⟨f,g,h,i⟩:(List ah)×(List ah)×Int×Int)=>bif (decide (i<h))then (idx g i).bind fun c=>(cZ c).bind fun d=>bif (!d)then some (.inr (false))else (gU (ak.mk f) c.id).bind fun e=>bif (e != i)then some (.inr (false))else some (.inl (f,g,h,w64 (i+1)))else some (.inr ((decide ((f.length:Int)<=8))))) (a.cells,a.cells,(a.cells.length:Int),0)
def GY:Fsp:=⟨92,[shT .notebook],[shF .bool],true,false,fun x=>fH x⟩
def yw(a:List ah)(b:Int)(c:ah):Option ((List ah)):=(eff.cutL a none (some (if (if (a.length:Int)<b then (a.length:Int)else b)>0 then (if (a.length:Int)<b then (a.length:Int)else b)else 0))).bind fun d=>(gd (0+d.length)).bind fun _=>(gd (([]++d).length+[c].length)).bind fun _=>(eff.cutL a (some (if (if (a.length:Int)<b then (a.length:Int)else b)>0 then (if (a.length:Int)<b then (a.length:Int)else b)else 0)) none).bind fun e=>(gd ((([]++d)++[c]).length+e.length)).bind fun _=>some ((([]++d)++[c])++e)
def abx:Fsp:=⟨136,[slF .cell,shF .int,shT .cell],[slF .cell],true,false,fun x=>yw x.1 x.2.1 x.2.2⟩
def CS(a:List ah)(b:Int):Option ((List ah)):=(eff.cutL a none (some b)).bind fun c=>(gd (0+c.length)).bind fun _=>(eff.cutL a (some (w64 (b+1))) none).bind fun d=>(gd (([]++c).length+d.length)).bind fun _=>some (([]++c)++d)
def aek:Fsp:=⟨137,[slF .cell,shF .int],[slF .cell],true,false,fun x=>CS x.1 x.2⟩
def Y4(a:ak)(b:dP):Option (ak×Int):=(gU a b.cell.id).bind fun d=>bif (b.kind==1)then (cZ b.cell).bind fun w=>bif (!w)then some (a,1)else bif (decide (d>=0))then some (a,3)else bif (decide ((a.cells.length:Int)>=8))then some (a,4)else (yw a.cells b.pos b.cell).bind fun x=>some (ak.mk x,0)else bif (decide (d<0))then some (a,2)else (idx a.cells d).bind fun c=>bif (b.kind==2)then (CS a.cells d).bind fun y=>some (ak.mk y,0)else bif (b.kind==3)then (CS a.cells d).bind fun z=>(yw z b.pos c).bind fun A=>some (ak.mk A,0)else bif (b.kind==5)then bif (c.kind != 3)then some (a,5)else (cZ (ah.mk c.id c.version c.kind c.name c.code b.cell.n)).bind fun B=>bif (!B)then some (a,1)else (bT a).bind fun m=>(idx m.cells d).bind fun _=>(m.cells[d.toNat]?).bind fun C=>some (ak.mk (m.cells.set d.toNat (ah.mk c.id c.version c.kind c.name c.code b.cell.n)),0)else bif (b.kind==4)then bif (c.kind==3)then some (a,5)else bif (b.kind==6)then bif (c.kind != 2)then some (a,5)else bif (decide (c.version>=999))then some (a,6)else bif (b.kind==4)then (cZ (ah.mk c.id (w64 (c.version+1)) c.kind b.cell.name b.cell.code c.n)).bind fun o=>bif (!o)then some (a,1)else (bT a).bind fun e=>(idx e.cells d).bind fun _=>(e.cells[d.toNat]?).bind fun D=>some (ak.mk (e.cells.set d.toNat (ah.mk c.id (w64 (c.version+1)) c.kind b.cell.name b.cell.code c.n)),0)else (cZ (ah.mk c.id (w64 (c.version+1)) c.kind c.name c.code c.n)).bind fun p=>bif (!p)then some (a,1)else (bT a).bind fun f=>(idx f.cells d).bind fun _=>(f.cells[d.toNat]?).bind fun E=>some (ak.mk (f.cells.set d.toNat (ah.mk c.id (w64 (c.version+1)) c.kind c.name c.code c.n)),0)else bif (decide (c.version>=999))then some (a,6)else bif (b.kind==4)then (cZ (ah.mk c.id (w64 (c.version+1)) c.kind b.cell.name b.cell.code c.n)).bind fun q=>bif (!q)then some (a,1)else (bT a).bind fun g=>(idx g.cells d).bind fun _=>(g.cells[d.toNat]?).bind fun F=>some (ak.mk (g.cells.set d.toNat (ah.mk c.id (w64 (c.version+1)) c.kind b.cell.name b.cell.code c.n)),0)else (cZ (ah.mk c.id (w64 (c.version+1)) c.kind c.name c.code c.n)).bind fun r=>bif (!r)then some (a,1)else (bT a).bind fun h=>(idx h.cells d).bind fun _=>(h.cells[d.toNat]?).bind fun G=>some (ak.mk (h.cells.set d.toNat (ah.mk c.id (w64 (c.version+1)) c.kind c.name c.code c.n)),0)else bif (b.kind==6)then bif (c.kind != 2)then some (a,5)else bif (decide (c.version>=999))then some (a,6)else bif (b.kind==4)then (cZ (ah.mk c.id (w64 (c.version+1)) c.kind b.cell.name b.cell.code c.n)).bind fun s=>bif (!s)then some (a,1)else (bT a).bind fun i=>(idx i.cells d).bind fun _=>(i.cells[d.toNat]?).bind fun H=>some (ak.mk (i.cells.set d.toNat (ah.mk c.id (w64 (c.version+1)) c.kind b.cell.name b.cell.code c.n)),0)else (cZ (ah.mk c.id (w64 (c.version+1)) c.kind c.name c.code c.n)).bind fun t=>bif (!t)then some (a,1)else (bT a).bind fun j=>(idx j.cells d).bind fun _=>(j.cells[d.toNat]?).bind fun I=>some (ak.mk (j.cells.set d.toNat (ah.mk c.id (w64 (c.version+1)) c.kind c.name c.code c.n)),0)else bif (decide (c.version>=999))then some (a,6)else bif (b.kind==4)then (cZ (ah.mk c.id (w64 (c.version+1)) c.kind b.cell.name b.cell.code c.n)).bind fun u=>bif (!u)then some (a,1)else (bT a).bind fun k=>(idx k.cells d).bind fun _=>(k.cells[d.toNat]?).bind fun J=>some (ak.mk (k.cells.set d.toNat (ah.mk c.id (w64 (c.version+1)) c.kind b.cell.name b.cell.code c.n)),0)else (cZ (ah.mk c.id (w64 (c.version+1)) c.kind c.name c.code c.n)).bind fun v=>bif (!v)then some (a,1)else (bT a).bind fun l=>(idx l.cells d).bind fun _=>(l.cells[d.toNat]?).bind fun K=>some (ak.mk (l.cells.set d.toNat (ah.mk c.id (w64 (c.version+1)) c.kind c.name c.code c.n)),0)
def ahy:Fsp:=⟨94,[shT .notebook,shT .edit],[shT .notebook,shF .int],false,false,fun x=>Y4 x.1 x.2⟩
def uP(a:ak)(b:dP):Option (ak×Int):=(fH a).bind fun d=>bif (!d)then (bT a).bind fun e=>some (e,1)else (iF b.kind 1 6).bind fun f=>bif (!f)then (bT a).bind fun g=>some (g,1)else (Y4 a b).bind fun c=>(bT c.1).bind fun h=>some (h,c.2)
def Y6:Fsp:=⟨41,[shT .notebook,shT .edit],[shT .notebook,shF .int],true,false,fun x=>uP x.1 x.2⟩
def mF(a:Str)(b c:Int):Option (Int×Bool):=qR a b c
def akd:Fsp:=⟨264,[shF .str,shF .int,shF .int],[shF .int,shF .bool],true,false,fun x=>mF x.1 x.2.1 x.2.2⟩
def Q5:Fsp:=⟨265,[shF .str,shF .u8],[shF .int],true,false,fun x=>eu x.1 x.2⟩
def gY(a:Str):Option (Bool):=au (fun (b:Str×Int)=>bif (decide (b.2<(b.1.length:Int)))then (idx b.1 b.2).bind fun c=>bif (decide ((c.toNat:Int)<32))then some (.inr (false))else (idx b.1 b.2).bind fun d=>bif (decide ((d.toNat:Int)>126))then some (.inr (false))else (idx b.1 b.2).bind fun e=>bif ((e.toNat:Int)==34)then some (.inr (false))else some (.inl (b.1,w64 (b.2+1)))else some (.inr ((decide ((b.1.length:Int)<=20))))) (a,0)
def RP:Fsp:=⟨266,[shF .str],[shF .bool],true,false,fun x=>gY x⟩
def Q7:Fsp:=⟨267,[shF .str,shF .str],[shF .bool],true,false,fun x=>jw x.1 x.2⟩
def jA(a:Str)(b:Int):Option (aK×Int×Bool):=(idx a b).bind fun f=>bif (decide ((f.toNat:Int)>=97))then bif (decide ((f.toNat:Int)<=122))then au (fun(⟨aa,ac,ae,aq,ar,aw,az⟩:Str×Int×Int×Int×Int×Str×Int)=>bif (decide (az<(aa.length:Int)))then (idx aa az).bind fun c3=>bif (decide ((c3.toNat:Int)>=97))then (idx aa az).bind fun c4=>bif (decide ((c4.toNat:Int)<=122))then some (.inl (aa,ac,ae,aq,ar,aw,w64 (az+1)))else (idx aa az).bind fun c5=>bif (decide ((c5.toNat:Int)>=48))then (idx aa az).bind fun c6=>bif (decide ((c6.toNat:Int)<=57))then some (.inl (aa,ac,ae,aq,ar,aw,w64 (az+1)))else ((eff.cutL aa (some ac) (some az)).bind fun r7=>some (aK.mk 1 0 ac r7,az,(decide ((w64 (az-ac))<=8)))).bind fun r=>some (.inr r)else ((eff.cutL aa (some ac) (some az)).bind fun r8=>some (aK.mk 1 0 ac r8,az,(decide ((w64 (az-ac))<=8)))).bind fun r=>some (.inr r)else (idx aa az).bind fun c9=>bif (decide ((c9.toNat:Int)>=48))then (idx aa az).bind fun v=>bif (decide ((v.toNat:Int)<=57))then some (.inl (aa,ac,ae,aq,ar,aw,w64 (az+1)))else ((eff.cutL aa (some ac) (some az)).bind fun w=>some (aK.mk 1 0 ac w,az,(decide ((w64 (az-ac))<=8)))).bind fun r=>some (.inr r)else ((eff.cutL aa (some ac) (some az)).bind fun x=>some (aK.mk 1 0 ac x,az,(decide ((w64 (az-ac))<=8)))).bind fun r=>some (.inr r)else ((eff.cutL aa (some ac) (some az)).bind fun y=>some (aK.mk 1 0 ac y,az,(decide ((w64 (az-ac))<=8)))).bind fun r=>some (.inr r)) (a,b,0,0,0,[],b)else bif (decide ((f.toNat:Int)>=48))then bif (decide ((f.toNat:Int)<=57))then au (fun(⟨c,aD,aE,aL,aM,aR,ba⟩:Str×Int×Int×Int×Int×Str×Int)=>bif (decide (ba<(c.length:Int)))then (idx c ba).bind fun z=>bif (decide ((z.toNat:Int)>=48))then (idx c ba).bind fun A=>bif (decide ((A.toNat:Int)<=57))then some (.inl (c,aD,aE,aL,aM,aR,w64 (ba+1)))else ((eff.cutL c (some aD) (some ba)).bind fun B=>(mF B 0 1000000000).bind fun k=>some (aK.mk 2 k.1 aD [],ba,k.2)).bind fun r=>some (.inr r)else ((eff.cutL c (some aD) (some ba)).bind fun C=>(mF C 0 1000000000).bind fun l=>some (aK.mk 2 l.1 aD [],ba,l.2)).bind fun r=>some (.inr r)else ((eff.cutL c (some aD) (some ba)).bind fun D=>(mF D 0 1000000000).bind fun m=>some (aK.mk 2 m.1 aD [],ba,m.2)).bind fun r=>some (.inr r)) (a,b,0,0,0,[],b)else bif ((f.toNat:Int)==34)then (eff.cutL a (some (w64 (b+1))) none).bind fun E=>(eu E 34).bind fun g=>bif (decide (g<0))then some (aK.mk 0 0 0 [],0,false)else (eff.cutL a (some (w64 (b+1))) (some (w64 ((w64 (b+1))+g)))).bind fun n=>(gY n).bind fun F=>some (aK.mk 3 0 b n,w64 ((w64 (b+g))+2),F)else (eff.cutL a (some b) none).bind fun G=>(jw G [61,61]).bind fun H=>bif H then some (aK.mk 4 0 b [61,61],w64 (b+2),true)else (eff.cutL a (some b) (some (w64 (b+1)))).bind fun I=>(eu [40,41,91,93,44,43,45,42,60,61] (f.toNat:Int)).bind fun J=>some (aK.mk 4 0 b I,w64 (b+1),(decide (J>=0)))else bif ((f.toNat:Int)==34)then (eff.cutL a (some (w64 (b+1))) none).bind fun K=>(eu K 34).bind fun h=>bif (decide (h<0))then some (aK.mk 0 0 0 [],0,false)else (eff.cutL a (some (w64 (b+1))) (some (w64 ((w64 (b+1))+h)))).bind fun o=>(gY o).bind fun L=>
    some (aK.mk 3 0 b o,w64 ((w64 (b+h))+2),L)
  else
   (eff.cutL a (some b) none).bind fun M=>
   (jw M [61,61]).bind fun N=>
   bif N then
    some (aK.mk 4 0 b [61,61],w64 (b+2),true)
   else
    (eff.cutL a (some b) (some (w64 (b+1)))).bind fun O=>
    (eu [40,41,91,93,44,43,45,42,60,61] (f.toNat:Int)).bind fun P=>
    some (aK.mk 4 0 b O,w64 (b+1),(decide (P>=0)))
 else
 bif (decide ((f.toNat:Int)>=48))then
  bif (decide ((f.toNat:Int)<=57))then
   au (fun(⟨d,bc,bh,bj,bl,bm,bp⟩:Str×Int×Int×Int×Int×Str×Int)=>
    bif (decide (bp<(d.length:Int)))then
     (idx d bp).bind fun Q=>
     bif (decide ((Q.toNat:Int)>=48))then
      (idx d bp).bind fun R=>
      bif (decide ((R.toNat:Int)<=57))then
       some (.inl (d,bc,bh,bj,bl,bm,w64 (bp+1)))
      else
       (
        (eff.cutL d (some bc) (some bp)).bind fun S=>
        (mF S 0 1000000000).bind fun p=>
        some (aK.mk 2 p.1 bc [],bp,p.2)
       ).bind fun r=>some (.inr r)
     else
      (
       (eff.cutL d (some bc) (some bp)).bind fun T=>
       (mF T 0 1000000000).bind fun q=>
       some (aK.mk 2 q.1 bc [],bp,q.2)
      ).bind fun r=>some (.inr r)
    else
     (
      (eff.cutL d (some bc) (some bp)).bind fun U=>
      (mF U 0 1000000000).bind fun s=>
      some (aK.mk 2 s.1 bc [],bp,s.2)
     ).bind fun r=>some (.inr r)
   ) (a,b,0,0,0,[],b)
  else
  bif ((f.toNat:Int)==34)then
   (eff.cutL a (some (w64 (b+1))) none).bind fun V=>
   (eu V 34).bind fun i=>
   bif (decide (i<0))then
    some (aK.mk 0 0 0 [],0,false)
   else
    (eff.cutL a (some (w64 (b+1))) (some (w64 ((w64 (b+1))+i)))).bind fun t=>
    (gY t).bind fun W=>
    some (aK.mk 3 0 b t,w64 ((w64 (b+i))+2),W)
  else
   (eff.cutL a (some b) none).bind fun X=>
   (jw X [61,61]).bind fun Y=>
   bif Y then
    some (aK.mk 4 0 b [61,61],w64 (b+2),true)
   else
    (eff.cutL a (some b) (some (w64 (b+1)))).bind fun Z=>
    (eu [40,41,91,93,44,43,45,42,60,61] (f.toNat:Int)).bind fun r55=>
    some (aK.mk 4 0 b Z,w64 (b+1),(decide (r55>=0)))
 else
 bif ((f.toNat:Int)==34)then
  (eff.cutL a (some (w64 (b+1))) none).bind fun r56=>
  (eu r56 34).bind fun j=>
  bif (decide (j<0))then
   some (aK.mk 0 0 0 [],0,false)
  else
   (eff.cutL a (some (w64 (b+1))) (some (w64 ((w64 (b+1))+j)))).bind fun u=>
   (gY u).bind fun r59=>
   some (aK.mk 3 0 b u,w64 ((w64 (b+j))+2),r59)
 else
  (eff.cutL a (some b) none).bind fun r60=>
  (jw r60 [61,61]).bind fun r61=>
  bif r61 then
   some (aK.mk 4 0 b [61,61],w64 (b+2),true)
  else
   (eff.cutL a (some b) (some (w64 (b+1)))).bind fun r62=>
   (eu [40,41,91,93,44,43,45,42,60,61] (f.toNat:Int)).bind fun r63=>
   some (aK.mk 4 0 b r62,w64 (b+1),(decide (r63>=0)))
def aef:Fsp:=⟨222,[shF .str,shF .int],[shT .token,shF .int,shF .bool],true,false,fun x=>jA x.1 x.2⟩
def xY(a:Str):Option ((List aK)×Int):=bif (decide ((a.length:Int)>120))then some ([],120)else au (fun(⟨e,f,g⟩:Str×(List aK)×Int)=>bif (decide (g<(e.length:Int)))then (idx e g).bind fun d=>bif ((d.toNat:Int)==32)then some (.inl (e,f,w64 (g+1)))else (jA e g).bind fun c=>bif (!c.2.2)then some (.inr ([],g))else bif ((f.length:Int)==60)then some (.inr ([],g))else (gd (f.length+[c.1].length)).bind fun _=>some (.inl (e,f++[c.1],c.2.1))else some (.inr (f,(-1)))) (a,[],0)
def abk:Fsp:=⟨179,[shF .str],[slF .token,shF .int],true,false,fun x=>xY x⟩
def jI(a:aK)(b:Str):Option (Bool):=bif (a.kind==1)then some ((a.text==b))else some (false)
def YT:Fsp:=⟨223,[shT .token,shF .str],[shF .bool],true,false,fun x=>jI x.1 x.2⟩
def fA(a:aV):Option (aV×aK):=bif (decide (a.bad<0))then bif (decide (a.i<(a.toks.length:Int)))then (idx a.toks a.i).bind fun b=>some (a,b)else some (a,aK.mk 0 0 0 [])else some (a,aK.mk 0 0 0 [])
def UJ:Fsp:=⟨224,[shT .psr],[shT .psr,shT .token],false,false,fun x=>fA x⟩
def iw(a:aV):Option (aV×af):=bif (decide (a.bad<0))then some (aV.mk a.toks a.i a.i,af.mk 0 0 [] [])else some (a,af.mk 0 0 [] [])
def UM:Fsp:=⟨268,[shT .psr],[shT .psr,shT .expr],false,true,fun x=>iw x⟩
def lI(a:aV):Option (aV×Str):=(fA a).bind fun b=>bif (b.2.kind != 1)then (iw b.1).bind fun c=>some (c.1,[])else (bI b.2.text).bind fun d=>bif (!d)then (iw b.1).bind fun e=>some (e.1,[])else some (aV.mk b.1.toks (w64 (b.1.i+1)) b.1.bad,b.2.text)
def UL:Fsp:=⟨225,[shT .psr],[shT .psr,shF .str],false,false,fun x=>lI x⟩
def yu(a:aK)(b:Str):Option (Bool):=bif (a.kind==4)then some ((a.text==b))else some (false)
def abv:Fsp:=⟨269,[shT .token,shF .str],[shF .bool],true,false,fun x=>yu x.1 x.2⟩
def bV(a:aV)(b:Str):Option (aV):=(fA a).bind fun c=>(jI c.2 b).bind fun e=>bif e then some (aV.mk c.1.toks (w64 (c.1.i+1)) c.1.bad)else (fA c.1).bind fun d=>(yu d.2 b).bind fun f=>bif f then some (aV.mk d.1.toks (w64 (d.1.i+1)) d.1.bad)else (iw d.1).bind fun g=>some (g.1)
def UK:Fsp:=⟨226,[shT .psr,shF .str],[shT .psr],false,false,fun x=>bV x.1 x.2⟩
def bn(a:aV)(b:Str):Option (aV×Bool):=(fA a).bind fun c=>(yu c.2 b).bind fun d=>bif d then some (aV.mk c.1.toks (w64 (c.1.i+1)) c.1.bad,true)else some (c.1,false)
def NU:Fsp:=⟨228,[shT .psr,shF .str],[shT .psr,shF .bool],false,false,fun x=>bn x.1 x.2⟩
def tu(a:Int):Option (Str):=(iF a 1 5).bind fun b=>bif (!b)then some ([63])else (idx ([[43],[45],[42],[60],[61,61]]:List Str) (w64 (a-1))).bind fun _=>(([[43],[45],[42],[60],[61,61]]:List Str)[(w64 (a-1)).toNat]?).bind fun c=>some (c)
def abq:Fsp:=⟨229,[shF .int],[shF .str],true,false,fun x=>tu x⟩
def zU(riParserExpr:aV->Option (aV×af))(riParserSum:aV->Option (aV×af))(riParserProduct:aV->Option (aV×af))(riParserAtom:aV->Option (aV×af))(riParserList2:aV->Str->Option (aV×(List af)))(a:aV):Option (aV×af):=(fA a).bind fun l=>(jI l.2 [108,101,116]).bind fun A=>bif A then (lI (aV.mk l.1.toks (w64 (l.1.i+1)) l.1.bad)).bind fun z=>(bV z.1 [61]).bind fun B=>(riParserExpr B).bind fun r=>(gd ([aj r.2].length)).bind fun _=>(bV r.1 [105,110]).bind fun C=>(riParserExpr C).bind fun s=>(gd ([aj r.2].length+[aj s.2].length)).bind fun _=>some (s.1,af.mk 7 0 z.2 ([aj r.2]++[aj s.2]))else (fA l.1).bind fun m=>(jI m.2 [105,102]).bind fun D=>bif D then (riParserExpr (aV.mk m.1.toks (w64 (m.1.i+1)) m.1.bad)).bind fun d=>(gd ([aj d.2].length)).bind fun _=>(bV d.1 [116,104,101,110]).bind fun t=>(riParserExpr t).bind fun g=>(gd ([aj d.2].length+[aj g.2].length)).bind fun _=>(bV g.1 [101,108,115,101]).bind fun u=>(riParserExpr u).bind fun j=>(gd (([aj d.2]++[aj g.2]).length+[aj j.2].length)).bind fun _=>some (j.1,af.mk 8 0 [] (([aj d.2]++[aj g.2])++[aj j.2]))else (fA m.1).bind fun e=>(jI e.2 [102,111,114]).bind fun v=>bif v then (lI (aV.mk e.1.toks (w64 (e.1.i+1)) e.1.bad)).bind fun o=>(bV o.1 [105,110]).bind fun w=>(riParserExpr w).bind fun h=>(gd ([aj h.2].length)).bind fun _=>(bV h.1 [100,111]).bind fun x=>(riParserExpr x).bind fun k=>(gd ([aj h.2].length+[aj k.2].length)).bind fun _=>some (k.1,af.mk 9 0 o.2 ([aj h.2]++[aj k.2]))else (riParserSum e.1).bind fun c=>au (fun(⟨E,F,G,H,I,J,K,L,M,N,O,P,Q,R⟩:(List aK)×Int×Int×Int×Int×Str×(List af)×Int×Int×Str×(List af)×(List Int)×Int×Int)=>bif (decide (R<Q))then (idx P R).bind fun _=>(P[R.toNat]?).bind fun p=>(tu p).bind fun y=>(bn (aV.mk E F G) y).bind fun f=>bif f.2 then (riParserSum f.1).bind fun q=>some (.inr (q.1,af.mk 6 p [] [af.mk L M N O,aj q.2]))else some (.inl (f.1.toks,f.1.i,f.1.bad,H,I,J,K,L,M,N,O,P,Q,w64 (R+1)))else some (.inr (aV.mk E F G,af.mk L M N O))) (c.1.toks,c.1.i,c.1.bad,0,0,[],[],c.2.kind,c.2.n,c.2.text,c.2.args,[4,5],([4,5].length:Int),0)
def CU(riParserExpr:aV->Option (aV×af))(riParserSum:aV->Option (aV×af))(riParserProduct:aV->Option (aV×af))(riParserAtom:aV->Option (aV×af))(riParserList2:aV->Str->Option (aV×(List af)))(a:aV):Option (aV×af):=(riParserProduct a).bind fun c=>au (fun(⟨h,j,k,l,m,o,p,q,r,s,t⟩:(List aK)×Int×Int×Int×Int×Str×(List af)×Int×Int×Str×(List af))=>bif (decide (k<0))then (bn (aV.mk h j k) [43]).bind fun f=>bif (!f.2)then (bn f.1 [45]).bind fun g=>bif (!g.2)then some (.inr (g.1,af.mk q r s t))else (riParserProduct g.1).bind fun d=>some (.inl (d.1.toks,d.1.i,d.1.bad,l,m,o,p,6,2,[],[af.mk q r s t,aj d.2]))else (riParserProduct f.1).bind fun e=>some (.inl (e.1.toks,e.1.i,e.1.bad,l,m,o,p,6,1,[],[af.mk q r s t,aj e.2]))else some (.inr (aV.mk h j k,af.mk q r s t))) (c.1.toks,c.1.i,c.1.bad,0,0,[],[],c.2.kind,c.2.n,c.2.text,c.2.args)
def rE(riParserExpr:aV->Option (aV×af))(riParserSum:aV->Option (aV×af))(riParserProduct:aV->Option (aV×af))(riParserAtom:aV->Option (aV×af))(riParserList2:aV->Str->Option (aV×(List af)))(a:aV):Option (aV×af):=(riParserAtom a).bind fun c=>au (fun(⟨f,g,h,j,k,l,m,o,p,q,r⟩:(List aK)×Int×Int×Int×Int×Str×(List af)×Int×Int×Str×(List af))=>(bn (aV.mk f g h) [42]).bind fun e=>bif e.2 then (riParserAtom e.1).bind fun d=>some (.inl (d.1.toks,d.1.i,d.1.bad,j,k,l,m,6,3,[],[af.mk o p q r,aj d.2]))else some (.inr (e.1,af.mk o p q r))) (c.1.toks,c.1.i,c.1.bad,0,0,[],[],c.2.kind,c.2.n,c.2.text,c.2.args)
def sF(riParserExpr:aV->Option (aV×af))(riParserSum:aV->Option (aV×af))(riParserProduct:aV->Option (aV×af))(riParserAtom:aV->Option (aV×af))(riParserList2:aV->Str->Option (aV×(List af)))(a:aV):Option (aV×af):=(fA a).bind fun b=>bif (b.2.kind==2)then some (aV.mk b.1.toks (w64 (b.1.i+1)) b.1.bad,af.mk 1 b.2.n [] [])else bif (b.2.kind==3)then some (aV.mk b.1.toks (w64 (b.1.i+1)) b.1.bad,af.mk 2 0 b.2.text [])else bif (b.2.kind==1)then (bI b.2.text).bind fun G=>bif G then some (aV.mk b.1.toks (w64 (b.1.i+1)) b.1.bad,af.mk 3 0 b.2.text [])else bif (b.2.kind==1)then (fC b.2.text).bind fun H=>bif (decide (H>=0))then (bV (aV.mk b.1.toks (w64 (b.1.i+1)) b.1.bad) [40]).bind fun I=>(riParserList2 I [41]).bind fun D=>some (D.1,af.mk 5 0 b.2.text D.2)else (bn b.1 [91]).bind fun v=>bif v.2 then (riParserList2 v.1 [93]).bind fun E=>some (E.1,af.mk 4 0 [] E.2)else (bn v.1 [40]).bind fun w=>bif w.2 then (riParserExpr w.1).bind fun F=>(bV F.1 [41]).bind fun x=>some (x,aj F.2)else (iw w.1).bind fun j=>some (j.1,aj j.2)else (bn b.1 [91]).bind fun c=>bif c.2 then (riParserList2 c.1 [93]).bind fun k=>some (k.1,af.mk 4 0 [] k.2)else (bn c.1 [40]).bind fun d=>bif d.2 then (riParserExpr d.1).bind fun l=>(bV l.1 [41]).bind fun y=>some (y,aj l.2)else (iw d.1).bind fun m=>some (m.1,aj m.2)else bif (b.2.kind==1)then (fC b.2.text).bind fun z=>bif (decide (z>=0))then (bV (aV.mk b.1.toks (w64 (b.1.i+1)) b.1.bad) [40]).bind fun A=>(riParserList2 A [41]).bind fun o=>some (o.1,af.mk 5 0 b.2.text o.2)else (bn b.1 [91]).bind fun e=>bif e.2 then (riParserList2 e.1 [93]).bind fun p=>some (p.1,af.mk 4 0 [] p.2)else (bn e.1 [40]).bind fun f=>bif f.2 then (riParserExpr f.1).bind fun q=>(bV q.1 [41]).bind fun B=>some (B,aj q.2)else (iw f.1).bind fun r=>some (r.1,aj r.2)else (bn b.1 [91]).bind fun g=>bif g.2 then (riParserList2 g.1 [93]).bind fun s=>some (s.1,af.mk 4 0 [] s.2)else (bn g.1 [40]).bind fun h=>bif h.2 then (riParserExpr h.1).bind fun t=>(bV t.1 [41]).bind fun C=>some (C,aj t.2)else (iw h.1).bind fun u=>some (u.1,aj u.2)
def mV(riParserExpr:aV->Option (aV×af))(riParserSum:aV->Option (aV×af))(riParserProduct:aV->Option (aV×af))(riParserAtom:aV->Option (aV×af))(riParserList2:aV->Str->Option (aV×(List af)))(a:aV)(b:Str):Option (aV×(List af)):=(bn a b).bind fun d=>bif d.2 then some (d.1,[])else au (fun(⟨h,j,k,l,m⟩:(List aK)×Int×Int×Str×(List af))=>bif (decide (k<0))then (riParserExpr (aV.mk h j k)).bind fun e=>(gd (m.length+[aj e.2].length)).bind fun _=>(bn e.1 l).bind fun f=>bif f.2 then some (.inr (f.1,m++[aj e.2]))else (bV f.1 [44]).bind fun g=>some (.inl (g.toks,g.i,g.bad,l,m++[aj e.2]))else some (.inr (aV.mk h j k,m))) (d.1.toks,d.1.i,d.1.bad,b,[])
def aG:Nat->(aV->Option (aV×af))×(aV->Option (aV×af))×(aV->Option (aV×af))×(aV->Option (aV×af))×(aV->Str->Option (aV×(List af)))
 | 0=>(fun _=>none,fun _=>none,fun _=>none,fun _=>none,fun _ _=>none)
 | n+1=>(zU (aG n).1 (aG n).2.1 (aG n).2.2.1 (aG n).2.2.2.1 (aG n).2.2.2.2,CU (aG n).1 (aG n).2.1 (aG n).2.2.1 (aG n).2.2.2.1 (aG n).2.2.2.2,rE (aG n).1 (aG n).2.1 (aG n).2.2.1 (aG n).2.2.2.1 (aG n).2.2.2.2,sF (aG n).1 (aG n).2.1 (aG n).2.2.1 (aG n).2.2.2.1 (aG n).2.2.2.2,mV (aG n).1 (aG n).2.1 (aG n).2.2.1 (aG n).2.2.2.1 (aG n).2.2.2.2)
def CY(a:aV):Option (aV×af):=(aG (siz a+1)).1 a
def UN:Fsp:=⟨180,[shT .psr],[shT .psr,shT .expr],false,false,fun x=>CY x⟩
def CW(n:Nat):Fsp:=⟨180,[shT .psr],[shT .psr,shT .expr],false,false,fun x=>(aG n).1 x⟩
def aem(a:aV):Option (aV×af):=(aG (siz a+1)).2.1 a
def YK:Fsp:=⟨227,[shT .psr],[shT .psr,shT .expr],false,false,fun x=>aem x⟩
def FB(n:Nat):Fsp:=⟨227,[shT .psr],[shT .psr,shT .expr],false,false,fun x=>(aG n).2.1 x⟩
def RH(a:aV):Option (aV×af):=(aG (siz a+1)).2.2.1 a
def KN:Fsp:=⟨270,[shT .psr],[shT .psr,shT .expr],false,false,fun x=>RH x⟩
def vU(n:Nat):Fsp:=⟨270,[shT .psr],[shT .psr,shT .expr],false,false,fun x=>(aG n).2.2.1 x⟩
def abp(a:aV):Option (aV×af):=(aG (siz a+1)).2.2.2.1 a
def UO:Fsp:=⟨292,[shT .psr],[shT .psr,shT .expr],false,false,fun x=>abp x⟩
def CZ(n:Nat):Fsp:=⟨292,[shT .psr],[shT .psr,shT .expr],false,false,fun x=>(aG n).2.2.2.1 x⟩
def YL(a:aV)(b:Str):Option (aV×(List af)):=(aG (siz a+1)).2.2.2.2 a b
def RJ:Fsp:=⟨310,[shT .psr,shF .str],[shT .psr,slF .expr],false,false,fun x=>YL x.1 x.2⟩
def AX(n:Nat):Fsp:=⟨310,[shT .psr,shF .str],[shT .psr,slF .expr],false,false,fun x=>(aG n).2.2.2.2 x.1 x.2⟩
def C9(riNodeCount:af->Option (Int))(a:af):Option (Int):=au (fun(⟨e,f,g,h⟩:Int×(List af)×Int×Int)=>bif (decide (h<g))then (idx f h).bind fun c=>(riNodeCount (aj c)).bind fun d=>some (.inl (w64 (e+d),f,g,w64 (h+1)))else some (.inr (e))) (1,a.args,(a.args.length:Int),0)
def oz:Nat->(af->Option (Int))
 | 0=>fun _=>none
 | n+1=>C9 (oz n)
def GU(a:af):Option (Int):=(oz (siz a+1)) a
def YQ:Fsp:=⟨230,[shT .expr],[shF .int],true,false,fun x=>GU x⟩
def FD(n:Nat):Fsp:=⟨230,[shT .expr],[shF .int],true,false,fun x=>(oz n) x⟩
def Df(riNestingOf:af->Option (Int))(a:af):Option (Int):=au (fun(⟨e,f,g,h⟩:Int×(List af)×Int×Int)=>bif (decide (h<g))then (idx f h).bind fun d=>(riNestingOf (aj d)).bind fun c=>some (.inl ((if c>e then c else e),f,g,w64 (h+1)))else some (.inr (w64 (e+1)))) (0,a.args,(a.args.length:Int),0)
def qU:Nat->(af->Option (Int))
 | 0=>fun _=>none
 | n+1=>Df (qU n)
def GV(a:af):Option (Int):=(qU (siz a+1)) a
def YR:Fsp:=⟨231,[shT .expr],[shF .int],true,false,fun x=>GV x⟩
def FH(n:Nat):Fsp:=⟨231,[shT .expr],[shF .int],true,false,fun x=>(qU n) x⟩
def ED(a:af):Option (Bool):=bif (a.kind==1)then (iF a.n 0 1000000000).bind fun b=>bif b then bif (a.text==[])then some (((a.args.length:Int)==0))else some (false)else some (false)else bif (a.kind==2)then bif (a.n==0)then (gY a.text).bind fun c=>bif c then some (((a.args.length:Int)==0))else some (false)else some (false)else bif (a.kind==3)then bif (a.n==0)then (bI a.text).bind fun d=>bif d then some (((a.args.length:Int)==0))else some (false)else some (false)else bif (a.kind==4)then bif (a.n==0)then bif (a.text==[])then some ((decide ((a.args.length:Int)<=8)))else some (false)else some (false)else bif (a.kind==5)then bif (a.n==0)then (fC a.text).bind fun e=>some (((a.args.length:Int)==e))else some (false)else bif (a.kind==6)then (iF a.n 1 5).bind fun f=>bif f then bif (a.text==[])then some (((a.args.length:Int)==2))else some (false)else some (false)else bif (a.kind==7)then bif (a.n==0)then (bI a.text).bind fun g=>bif g then some (((a.args.length:Int)==2))else some (false)else some (false)else bif (a.kind==9)then bif (a.n==0)then (bI a.text).bind fun h=>bif h then some (((a.args.length:Int)==2))else some (false)else some (false)else bif (a.kind==8)then bif (a.n==0)then bif (a.text==[])then some (((a.args.length:Int)==3))else some (false)else some (false)else some (false)
def ahv:Fsp:=⟨271,[shT .expr],[shF .bool],true,false,fun x=>ED x⟩
def G6(riAreNodes:af->Option (Bool))(a:af):Option (Bool):=au (fun(⟨f,g,h,i,j,k,l⟩:Int×Int×Str×(List af)×(List af)×Int×Int)=>bif (decide (l<k))then (idx j l).bind fun c=>(riAreNodes (aj c)).bind fun d=>bif (!d)then some (.inr (false))else some (.inl (f,g,h,i,j,k,w64 (l+1)))else ((ED (af.mk f g h i)).bind fun e=>some (e)).bind fun r=>some (.inr r)) (a.kind,a.n,a.text,a.args,a.args,(a.args.length:Int),0)
def uO:Nat->(af->Option (Bool))
 | 0=>fun _=>none
 | n+1=>G6 (uO n)
def EI(a:af):Option (Bool):=(uO (siz a+1)) a
def abI:Fsp:=⟨232,[shT .expr],[shF .bool],true,false,fun x=>EI x⟩
def Jg(n:Nat):Fsp:=⟨232,[shT .expr],[shF .bool],true,false,fun x=>(uO n) x⟩
def gZ(a:af):Option (Bool):=(GU (aj a)).bind fun b=>bif (decide (b<=40))then (GV (aj a)).bind fun c=>bif (decide (c<=8))then (EI (aj a)).bind fun d=>some (d)else some (false)else some (false)
def RU:Fsp:=⟨181,[shT .expr],[shF .bool],true,false,fun x=>gZ x⟩
def qf(a:Str):Option (af×Int):=(xY a).bind fun c=>bif (decide (c.2>=0))then some (af.mk 0 0 [] [],c.2)else (CY (aV.mk c.1 0 (-1))).bind fun b=>bif (decide (b.1.bad<0))then bif (decide (b.1.i<(c.1.length:Int)))then bif (decide (b.1.i>=(c.1.length:Int)))then some (af.mk 0 0 [] [],(a.length:Int))else bif (decide (b.1.i>=0))then (idx c.1 b.1.i).bind fun _=>(c.1[b.1.i.toNat]?).bind fun f=>some (af.mk 0 0 [] [],f.pos)else (gZ (aj b.2)).bind fun g=>bif (!g)then some (af.mk 0 0 [] [],0)else some (aj b.2,(-1))else bif (decide (b.1.bad>=(c.1.length:Int)))then some (af.mk 0 0 [] [],(a.length:Int))else bif (decide (b.1.bad>=0))then (idx c.1 b.1.bad).bind fun _=>(c.1[b.1.bad.toNat]?).bind fun h=>some (af.mk 0 0 [] [],h.pos)else (gZ (aj b.2)).bind fun j=>bif (!j)then some (af.mk 0 0 [] [],0)else some (aj b.2,(-1))else bif (decide (b.1.bad>=(c.1.length:Int)))then some (af.mk 0 0 [] [],(a.length:Int))else bif (decide (b.1.bad>=0))then (idx c.1 b.1.bad).bind fun _=>(c.1[b.1.bad.toNat]?).bind fun d=>some (af.mk 0 0 [] [],d.pos)else (gZ (aj b.2)).bind fun e=>bif (!e)then some (af.mk 0 0 [] [],0)else some (aj b.2,(-1))
def YN:Fsp:=⟨138,[shF .str],[shT .expr,shF .int],false,false,fun x=>qf x⟩
def jC(a:List Str)(b:Str):Option (Int):=au (fun(⟨e,f,g,h⟩:Str×(List Str)×Int×Int)=>bif (decide (h<g))then (idx f h).bind fun d=>bif (d==e)then some (.inr (h))else some (.inl (e,f,g,w64 (h+1)))else some (.inr ((-1)))) (b,a,(a.length:Int),0)
def aes:Fsp:=⟨139,[slF .str,shF .str],[shF .int],true,false,fun x=>jC x.1 x.2⟩
def pY(a:List Str):Option ((List Str)):=au (fun(⟨f,g,h,i,j⟩:(List Str)×(List Str)×(List Str)×Int×Int)=>bif (decide (j<i))then (idx h j).bind fun c=>(jC f c).bind fun d=>bif (d==j)then (gd (g.length+([c]:List Str).length)).bind fun _=>some (.inl (f,g++([c]:List Str),h,i,w64 (j+1)))else some (.inl (f,g,h,i,w64 (j+1)))else ((jc g).bind fun e=>some (e)).bind fun r=>some (.inr r)) (a,[],a,(a.length:Int),0)
def YC:Fsp:=⟨184,[slF .str],[slF .str],true,false,fun x=>pY x⟩
def nR(a:af):Option (List Str):=(jK (siz a+1) a []).bind fun es=>(gd es.length).bind fun _=>pY (es.map (·.1))
def YU:Fsp:=⟨140,[shT .expr],[slF .str],true,false,fun x=>nR x⟩
def iy(a:af)(b c:Str):Option Bool:=(jK (siz a+1) a []).bind fun es=>(gd es.length).bind fun _=>some (es.any fun p=>p.1==b&&p.2.contains c)
def UX:Fsp:=⟨148,[shT .expr,shF .str,shF .str],[shF .bool],true,false,fun x=>iy x.1 x.2.1 x.2.2⟩
def G5(riCopyExpr:af->Option (af))(a:af):Option (af):=au (fun(⟨e,f,g,h,i,j,k,l,m,o,p⟩:Int×Int×Str×(List af)×Int×Int×Str×(List af)×(List af)×Int×Int)=>bif (decide (p<o))then (idx m p).bind fun d=>(riCopyExpr (aj d)).bind fun c=>(gd (l.length+[aj c].length)).bind fun _=>some (.inl (e,f,g,h,i,j,k,l++[aj c],m,o,w64 (p+1)))else some (.inr (af.mk i j k l))) (0,0,[],[],a.kind,a.n,a.text,[],a.args,(a.args.length:Int),0)
def uN:Nat->(af->Option (af))
 | 0=>fun _=>none
 | n+1=>G5 (uN n)
def EH(a:af):Option (af):=(uN (siz a+1)) a
def abE:Fsp:=⟨234,[shT .expr],[shT .expr],true,false,fun x=>EH x⟩
def Jf(n:Nat):Fsp:=⟨234,[shT .expr],[shT .expr],true,false,fun x=>(uN n) x⟩
def jB(riRenamed:af->Str->Str->Option (af)):(Str×Str×Int×Int×Str×(List af)×Int×Int×Str×(List af)×Bool×(List af)×Int×Int)->Option ((Str×Str×Int×Int×Str×(List af)×Int×Int×Str×(List af)×Bool×(List af)×Int×Int)⊕(af)):=
(fun (x1:Str×Str×Int×Int×Str×(List af)×Int×Int×Str×(List af)×Bool×(List af)×Int×Int)=>
     bif (decide (x1.2.2.2.2.2.2.2.2.2.2.2.2.2<x1.2.2.2.2.2.2.2.2.2.2.2.2.1))then
      (idx x1.2.2.2.2.2.2.2.2.2.2.2.1 x1.2.2.2.2.2.2.2.2.2.2.2.2.2).bind fun e2=>
      bif x1.2.2.2.2.2.2.2.2.2.2.1 then
       bif (decide (x1.2.2.2.2.2.2.2.2.2.2.2.2.2>0))then
        (EH (aj e2)).bind fun r3=>
        (gd (x1.2.2.2.2.2.2.2.2.2.1.length+[aj r3].length)).bind fun _=>
        some (.inl (x1.1,x1.2.1,x1.2.2.1,x1.2.2.2.1,x1.2.2.2.2.1,x1.2.2.2.2.2.1,x1.2.2.2.2.2.2.1,x1.2.2.2.2.2.2.2.1,x1.2.2.2.2.2.2.2.2.1,x1.2.2.2.2.2.2.2.2.2.1++[aj r3],x1.2.2.2.2.2.2.2.2.2.2.1,x1.2.2.2.2.2.2.2.2.2.2.2.1,x1.2.2.2.2.2.2.2.2.2.2.2.2.1,w64 (x1.2.2.2.2.2.2.2.2.2.2.2.2.2+1)))
       else
        (riRenamed (aj e2) x1.1 x1.2.1).bind fun r4=>
        (gd (x1.2.2.2.2.2.2.2.2.2.1.length+[aj r4].length)).bind fun _=>
        some (.inl (x1.1,x1.2.1,x1.2.2.1,x1.2.2.2.1,x1.2.2.2.2.1,x1.2.2.2.2.2.1,x1.2.2.2.2.2.2.1,x1.2.2.2.2.2.2.2.1,x1.2.2.2.2.2.2.2.2.1,x1.2.2.2.2.2.2.2.2.2.1++[aj r4],x1.2.2.2.2.2.2.2.2.2.2.1,x1.2.2.2.2.2.2.2.2.2.2.2.1,x1.2.2.2.2.2.2.2.2.2.2.2.2.1,w64 (x1.2.2.2.2.2.2.2.2.2.2.2.2.2+1)))
      else
       (riRenamed (aj e2) x1.1 x1.2.1).bind fun r5=>
       (gd (x1.2.2.2.2.2.2.2.2.2.1.length+[aj r5].length)).bind fun _=>
       some (.inl (x1.1,x1.2.1,x1.2.2.1,x1.2.2.2.1,x1.2.2.2.2.1,x1.2.2.2.2.2.1,x1.2.2.2.2.2.2.1,x1.2.2.2.2.2.2.2.1,x1.2.2.2.2.2.2.2.2.1,x1.2.2.2.2.2.2.2.2.2.1++[aj r5],x1.2.2.2.2.2.2.2.2.2.2.1,x1.2.2.2.2.2.2.2.2.2.2.2.1,x1.2.2.2.2.2.2.2.2.2.2.2.2.1,w64 (x1.2.2.2.2.2.2.2.2.2.2.2.2.2+1)))
     else
      some (.inr (af.mk x1.2.2.2.2.2.2.1 x1.2.2.2.2.2.2.2.1 x1.2.2.2.2.2.2.2.2.1 x1.2.2.2.2.2.2.2.2.2.1))
  )
def Ez(riRenamed:af->Str->Str->Option (af))(a:af)(b:Str)(c:Str):Option (af):=bif (a.kind==3)then bif (a.text==b)then bif (a.kind==7)then au (jB riRenamed) (b,c,0,0,[],[],a.kind,a.n,c,[],(a.text==b),a.args,(a.args.length:Int),0)else bif (a.kind==9)then au (jB riRenamed) (b,c,0,0,[],[],a.kind,a.n,c,[],(a.text==b),a.args,(a.args.length:Int),0)else au (jB riRenamed) (b,c,0,0,[],[],a.kind,a.n,c,[],false,a.args,(a.args.length:Int),0)else bif (a.kind==7)then au (jB riRenamed) (b,c,0,0,[],[],a.kind,a.n,a.text,[],(a.text==b),a.args,(a.args.length:Int),0)else bif (a.kind==9)then au (jB riRenamed) (b,c,0,0,[],[],a.kind,a.n,a.text,[],(a.text==b),a.args,(a.args.length:Int),0)else au (jB riRenamed) (b,c,0,0,[],[],a.kind,a.n,a.text,[],false,a.args,(a.args.length:Int),0)else bif (a.kind==7)then au (jB riRenamed) (b,c,0,0,[],[],a.kind,a.n,a.text,[],(a.text==b),a.args,(a.args.length:Int),0)else bif (a.kind==9)then au (jB riRenamed) (b,c,0,0,[],[],a.kind,a.n,a.text,[],(a.text==b),a.args,(a.args.length:Int),0)else au (jB riRenamed) (b,c,0,0,[],[],a.kind,a.n,a.text,[],false,a.args,(a.args.length:Int),0)
def yg:Nat->(af->Str->Str->Option (af))
 | 0=>fun _ _ _=>none
 | n+1=>Ez (yg n)
def Rz(a:af)(b:Str)(c:Str):Option (af):=(yg (siz a+1)) a b c
def aej:Fsp:=⟨185,[shT .expr,shF .str,shF .str],[shT .expr],true,false,fun x=>Rz x.1 x.2.1 x.2.2⟩
def Nj(n:Nat):Fsp:=⟨185,[shT .expr,shF .str,shF .str],[shT .expr],true,false,fun x=>(yg n) x.1 x.2.1 x.2.2⟩
def kG(a:af)(b:Str)(c:Str):Option (af×Bool):=(gZ (aj a)).bind fun d=>bif (!d)then some (af.mk 0 0 [] [],false)else (bI b).bind fun e=>bif (!e)then some (af.mk 0 0 [] [],false)else (bI c).bind fun f=>bif (!f)then some (af.mk 0 0 [] [],false)else (iy (aj a) b c).bind fun g=>bif g then some (af.mk 0 0 [] [],false)else (Rz (aj a) b c).bind fun h=>some (aj h,true)
def UI:Fsp:=⟨141,[shT .expr,shF .str,shF .str],[shT .expr,shF .bool],true,false,fun x=>kG x.1 x.2.1 x.2.2⟩
def ahg:Fsp:=⟨273,[shF .int],[shF .str],true,false,fun x=>Eu x⟩
def zW(a:Int):Option (Str):=(Eu a).bind fun b=>some (b)
def YV:Fsp:=⟨235,[shF .int],[shF .str],true,false,fun x=>zW x⟩
def ahf:Fsp:=⟨296,[slF .str,shF .str],[shF .str],true,false,fun x=>Es x.1 x.2⟩
def abu(a:List Str)(b:Str):Option (Str):=(Es a b).bind fun c=>some (c)
def ama:Fsp:=⟨274,[slF .str,shF .str],[shF .str],true,false,fun x=>abu x.1 x.2⟩
def I7(a:af):Option (Int):=bif (a.kind==7)then some (0)else bif (a.kind==8)then some (0)else bif (a.kind==9)then some (0)else bif (a.kind==6)then bif (a.n==4)then some (1)else bif (a.n==5)then some (1)else bif (a.n==1)then some (2)else bif (a.n==2)then some (2)else bif (a.n==3)then some (3)else some (4)else some (4)
def aeo:Fsp:=⟨237,[shT .expr],[shF .int],true,false,fun x=>I7 x⟩
def Rx(riSource:af->Option (Str))(riSources:(List af)->Option (Str))(riEnclosed:af->Int->Option (Str))(a:af):Option (Str):=bif (a.kind==1)then (zW a.n).bind fun A=>some (A)else bif (a.kind==2)then (gd ([34].length+a.text.length)).bind fun _=>(gd (([34]++a.text).length+[34].length)).bind fun _=>some (([34]++a.text)++[34])else bif (a.kind==3)then some (a.text)else bif (a.kind==4)then (riSources a.args).bind fun p=>(gd ([91].length+p.length)).bind fun _=>(gd (([91]++p).length+[93].length)).bind fun _=>some (([91]++p)++[93])else bif (a.kind==5)then (gd (a.text.length+[40].length)).bind fun _=>(riSources a.args).bind fun q=>(gd ((a.text++[40]).length+q.length)).bind fun _=>(gd (((a.text++[40])++q).length+[41].length)).bind fun _=>some (((a.text++[40])++q)++[41])else bif (a.kind==7)then (gd ([108,101,116,32].length+a.text.length)).bind fun _=>(gd (([108,101,116,32]++a.text).length+[32,61,32].length)).bind fun _=>(idx a.args 0).bind fun B=>(riSource (aj B)).bind fun o=>(gd ((([108,101,116,32]++a.text)++[32,61,32]).length+o.length)).bind fun _=>(gd (((([108,101,116,32]++a.text)++[32,61,32])++o).length+[32,105,110,32].length)).bind fun _=>(idx a.args 1).bind fun C=>(riSource (aj C)).bind fun z=>(gd ((((([108,101,116,32]++a.text)++[32,61,32])++o)++[32,105,110,32]).length+z.length)).bind fun _=>some ((((([108,101,116,32]++a.text)++[32,61,32])++o)++[32,105,110,32])++z)else bif (a.kind==8)then (idx a.args 0).bind fun D=>(riSource (aj D)).bind fun i=>(gd ([105,102,32].length+i.length)).bind fun _=>(gd (([105,102,32]++i).length+[32,116,104,101,110,32].length)).bind fun _=>(idx a.args 1).bind fun r=>(riSource (aj r)).bind fun d=>(gd ((([105,102,32]++i)++[32,116,104,101,110,32]).length+d.length)).bind fun _=>(gd (((([105,102,32]++i)++[32,116,104,101,110,32])++d).length+[32,101,108,115,101,32].length)).bind fun _=>(idx a.args 2).bind fun s=>(riSource (aj s)).bind fun j=>(gd ((((([105,102,32]++i)++[32,116,104,101,110,32])++d)++[32,101,108,115,101,32]).length+j.length)).bind fun _=>some ((((([105,102,32]++i)++[32,116,104,101,110,32])++d)++[32,101,108,115,101,32])++j)else bif (a.kind==9)then (gd ([102,111,114,32].length+a.text.length)).bind fun _=>(gd (([102,111,114,32]++a.text).length+[32,105,110,32].length)).bind fun _=>(idx a.args 0).bind fun t=>(riSource (aj t)).bind fun e=>(gd ((([102,111,114,32]++a.text)++[32,105,110,32]).length+e.length)).bind fun _=>(gd (((([102,111,114,32]++a.text)++[32,105,110,32])++e).length+[32,100,111,32].length)).bind fun _=>(idx a.args 1).bind fun u=>(riSource (aj u)).bind fun k=>(gd ((((([102,111,114,32]++a.text)++[32,105,110,32])++e)++[32,100,111,32]).length+k.length)).bind fun _=>some ((((([102,111,114,32]++a.text)++[32,105,110,32])++e)++[32,100,111,32])++k)else (I7 (aj a)).bind fun f=>bif (f==1)then (idx a.args 0).bind fun v=>(riEnclosed (aj v) 2).bind fun b=>(gd (b.length+[32].length)).bind fun _=>(tu a.n).bind fun g=>(gd ((b++[32]).length+g.length)).bind fun _=>(gd (((b++[32])++g).length+[32].length)).bind fun _=>(idx a.args 1).bind fun w=>(riEnclosed (aj w) (w64 (f+1))).bind fun l=>(gd ((((b++[32])++g)++[32]).length+l.length)).bind fun _=>some ((((b++[32])++g)++[32])++l)else (idx a.args 0).bind fun x=>(riEnclosed (aj x) f).bind fun c=>(gd (c.length+[32].length)).bind fun _=>(tu a.n).bind fun h=>(gd ((c++[32]).length+h.length)).bind fun _=>(gd (((c++[32])++h).length+[32].length)).bind fun _=>(idx a.args 1).bind fun y=>(riEnclosed (aj y) (w64 (f+1))).bind fun m=>(gd ((((c++[32])++h)++[32]).length+m.length)).bind fun _=>
 some ((((c++[32])++h)++[32])++m)
def KG(riSource:af->Option (Str))(riSources:(List af)->Option (Str))(riEnclosed:af->Int->Option (Str))(a:List af):Option (Str):=au (fun(⟨f,g,h,i⟩:(List Str)×(List af)×Int×Int)=>bif (decide (i<h))then (idx g i).bind fun d=>(riSource (aj d)).bind fun c=>(gd (f.length+([c]:List Str).length)).bind fun _=>some (.inl (f++([c]:List Str),g,h,w64 (i+1)))else ((abu f [44,32]).bind fun e=>some (e)).bind fun r=>some (.inr r)) ([],a,(a.length:Int),0)
def GZ(riSource:af->Option (Str))(riSources:(List af)->Option (Str))(riEnclosed:af->Int->Option (Str))(a:af)(b:Int):Option (Str):=(riSource (aj a)).bind fun c=>(I7 (aj a)).bind fun d=>bif (decide (d<b))then (gd ([40].length+c.length)).bind fun _=>(gd (([40]++c).length+[41].length)).bind fun _=>some (([40]++c)++[41])else some (c)
def dA:Nat->(af->Option (Str))×((List af)->Option (Str))×(af->Int->Option (Str))
 | 0=>(fun _=>none,fun _=>none,fun _ _=>none)
 | n+1=>(Rx (dA n).1 (dA n).2.1 (dA n).2.2,KG (dA n).1 (dA n).2.1 (dA n).2.2,GZ (dA n).1 (dA n).2.1 (dA n).2.2)
def YB(a:af):Option (Str):=(dA (siz a+1)).1 a
def aht:Fsp:=⟨186,[shT .expr],[shF .str],true,false,fun x=>YB x⟩
def Rw(n:Nat):Fsp:=⟨186,[shT .expr],[shF .str],true,false,fun x=>(dA n).1 x⟩
def akb(a:List af):Option (Str):=(dA (siz a+1)).2.1 a
def aeg:Fsp:=⟨236,[slF .expr],[shF .str],true,false,fun x=>akb x⟩
def Nh(n:Nat):Fsp:=⟨236,[slF .expr],[shF .str],true,false,fun x=>(dA n).2.1 x⟩
def ahw(a:af)(b:Int):Option (Str):=(dA (siz a+1)).2.2 a b
def abz:Fsp:=⟨238,[shT .expr,shF .int],[shF .str],true,false,fun x=>ahw x.1 x.2⟩
def Jb(n:Nat):Fsp:=⟨238,[shT .expr,shF .int],[shF .str],true,false,fun x=>(dA n).2.2 x.1 x.2⟩
def kH(a:af):Option (Str):=(gZ (aj a)).bind fun b=>bif (!b)then some ([])else (YB (aj a)).bind fun c=>some (c)
def UZ:Fsp:=⟨142,[shT .expr],[shF .str],true,false,fun x=>kH x⟩
def gm(a:Str)(b:Str)(c:Str):Option (Str):=(qf a).bind fun d=>bif (decide (d.2>=0))then some (a)else (nR (aj d.1)).bind fun g=>(jC g b).bind fun h=>bif (decide (h<0))then some (a)else (kG (aj d.1) b c).bind fun e=>(kH (aj e.1)).bind fun f=>bif e.2 then bif (decide ((f.length:Int)<=120))then some (f)else some (a)else some (a)
def Sm:Fsp:=⟨95,[shF .str,shF .str,shF .str],[shF .str],true,false,fun x=>gm x.1 x.2.1 x.2.2⟩
def zZ(a:dP)(b:List GOp):Option (dP):=au (fun(⟨i,j,k,l,m,o,p,q,r,s,t,u,v,w,x,y,z,A,B⟩:Int×Int×Int×Int×Int×Str×Str×Int×Int×Int×Int×Int×Int×Str×Str×Int×(List GOp)×Int×Int)=>bif (decide (B<A))then (idx z B).bind fun d=>bif (o==d.src)then bif (i==4)then (gm p d.src d.dst).bind fun e=>some (.inl (i,j,k,l,m,d.dst,e,q,r,s,t,u,v,w,x,y,z,A,w64 (B+1)))else bif (i==1)then bif (m==2)then (gm p d.src d.dst).bind fun f=>some (.inl (i,j,k,l,m,d.dst,f,q,r,s,t,u,v,w,x,y,z,A,w64 (B+1)))else some (.inl (i,j,k,l,m,d.dst,p,q,r,s,t,u,v,w,x,y,z,A,w64 (B+1)))else some (.inl (i,j,k,l,m,d.dst,p,q,r,s,t,u,v,w,x,y,z,A,w64 (B+1)))else bif (i==4)then (gm p d.src d.dst).bind fun g=>some (.inl (i,j,k,l,m,o,g,q,r,s,t,u,v,w,x,y,z,A,w64 (B+1)))else bif (i==1)then bif (m==2)then (gm p d.src d.dst).bind fun h=>some (.inl (i,j,k,l,m,o,h,q,r,s,t,u,v,w,x,y,z,A,w64 (B+1)))else some (.inl (i,j,k,l,m,o,p,q,r,s,t,u,v,w,x,y,z,A,w64 (B+1)))else some (.inl (i,j,k,l,m,o,p,q,r,s,t,u,v,w,x,y,z,A,w64 (B+1)))
  else
   some (.inr (dP.mk i j (ah.mk k l m o p q)))
 ) (a.kind,a.pos,a.cell.id,a.cell.version,a.cell.kind,a.cell.name,a.cell.code,a.cell.n,0,0,0,0,0,[],[],0,b,(b.length:Int),0)
def Y7:Fsp:=⟨42,[shT .edit,slF .op],[shT .edit],true,false,fun x=>zZ x.1 x.2⟩
def iR(a:GOp):Option (Int):=some (w64 ((w64 (a.time*3))+a.by_))
def NR:Fsp:=⟨43,[shT .op],[shF .int],true,false,fun x=>iR x⟩
def zV(a:Int):Option (aF):=some (aF.mk 1 a 0 [] [] [] [])
def RN:Fsp:=⟨239,[shF .int],[shT .val],true,false,fun x=>zV x⟩
def lJ(a:Int):Option (aF):=some (aF.mk 6 a 0 [] [] [] [])
def U0:Fsp:=⟨240,[shF .int],[shT .val],true,false,fun x=>lJ x⟩
def ad4:Fsp:=⟨275,[shF .str,shF .str],[slF .str],true,false,fun x=>kR x.1 x.2⟩
def lH(a:Str)(b:Int):Option ((List Str)):=(kR a (bytesOf [b])).bind fun c=>some (c)
def YA:Fsp:=⟨276,[shF .str,shF .u8],[slF .str],true,false,fun x=>lH x.1 x.2⟩
def yx(a:Str)(b:Int):Option ((List Int)×Bool):=(lH a 32).bind fun e=>au (fun(⟨g,h,i,j,k⟩:Int×(List Int)×(List Str)×Int×Int)=>bif (decide (k<j))then (idx i k).bind fun _=>(i[k.toNat]?).bind fun f=>(mF f (-1000000000) 1000000000).bind fun d=>bif (!d.2)then some (.inr ([],false))else (gd (h.length+[d.1].length)).bind fun _=>some (.inl (g,h++[d.1],i,j,w64 (k+1)))else some (.inr (h,((h.length:Int)==g)))) (b,[],e,(e.length:Int),0)
def aev:Fsp:=⟨277,[shF .str,shF .int],[slF .int,shF .bool],true,false,fun x=>yx x.1 x.2⟩
def sG(a:List Str):Option (Bool):=au (fun(⟨e,f,g,h⟩:(List Str)×(List Str)×Int×Int)=>bif (decide (h<g))then (idx f h).bind fun c=>(jC e c).bind fun d=>bif (d != h)then some (.inr (false))else some (.inl (e,f,g,w64 (h+1)))else some (.inr (true))) (a,a,(a.length:Int),0)
def Sl:Fsp:=⟨301,[slF .str],[shF .bool],true,false,fun x=>sG x⟩
def qY(a:List Str):Option (Bool):=au (fun(⟨g,h,i,j⟩:(List Str)×(List Str)×Int×Int)=>bif (decide (j<i))then (idx h j).bind fun c=>(bI c).bind fun d=>bif (!d)then some (.inr (false))else some (.inl (g,h,i,w64 (j+1)))else ((iF (g.length:Int) 1 4).bind fun e=>bif e then (sG g).bind fun f=>some (f)else some (false)).bind fun r=>some (.inr r)) (a,a,(a.length:Int),0)
def U3:Fsp:=⟨279,[slF .str],[shF .bool],true,false,fun x=>qY x⟩
def EC(a:Int):Option (Bool):=(iF a (-1000000000) 1000000000).bind fun b=>some (b)
def abw:Fsp:=⟨298,[shF .int],[shF .bool],true,false,fun x=>EC x⟩
def FC(a:bQ)(b:bQ):Option (Bool):=bif (decide (a.cell<b.cell))then some (true)else bif (a.cell==b.cell)then some ((decide (a.row<b.row)))else some (false)
def NV:Fsp:=⟨329,[shT .origin,shT .origin],[shF .bool],true,false,fun x=>FC x.1 x.2⟩
def Dj(a:aF):Option (Bool):=(qY a.columns).bind fun h=>bif (!h)then some (false)else bif (decide ((a.rows.length:Int)>12))then some (false)else au (fun(⟨l,m,o,p,q,s,t,u,v,w⟩:Int×Int×Int×Str×(List aF)×(List Str)×(List bD)×(List bD)×Int×Int)=>bif (decide (w<v))then (idx u w).bind fun e=>bif ((e.cells.length:Int) != (s.length:Int))then some (.inr (false))else au (fun(⟨d,x,y,z,A,B,C,D,E,F,G,H,I,J,K⟩:Int×Int×Int×Str×(List aF)×(List Str)×(List bD)×(List Int)×(List bQ)×(List bD)×Int×Int×(List Int)×Int×Int)=>bif (decide (K<J))then (idx I K).bind fun i=>(EC i).bind fun j=>bif (!j)then (some (.inr (false))).bind fun r=>some (.inr r)else some (.inl (d,x,y,z,A,B,C,D,E,F,G,H,I,J,w64 (K+1)))else (au (fun(⟨c,L,M,N,O,P,Q,R,S,T,U,V,W,X,Y⟩:Int×Int×Int×Str×(List aF)×(List Str)×(List bD)×(List Int)×(List bQ)×(List bD)×Int×Int×(List bQ)×Int×Int)=>bif (decide (Y<X))then (idx W Y).bind fun f=>bif (decide (f.cell<0))then (some (.inr (false))).bind fun r=>some (.inr r)else bif (decide (f.row<0))then (some (.inr (false))).bind fun r=>some (.inr r)else bif (decide (Y>0))then (idx S (w64 (Y-1))).bind fun k=>(FC k f).bind fun g=>bif (!g)then (some (.inr (false))).bind fun r=>some (.inr r)else some (.inl (c,L,M,N,O,P,Q,R,S,T,U,V,W,X,w64 (Y+1)))else some (.inl (c,L,M,N,O,P,Q,R,S,T,U,V,W,X,w64 (Y+1)))else some (.inr (.inl (c,L,M,N,O,P,Q,T,U,w64 (V+1))))) (d,x,y,z,A,B,C,D,E,F,G,H,E,(E.length:Int),0)).bind fun r=>some (.inr r)) (l,m,o,p,q,s,t,e.cells,e.orig,u,v,w,e.cells,(e.cells.length:Int),0)else some (.inr (true))) (a.kind,a.n,a.step,a.text,a.list,a.columns,a.rows,a.rows,(a.rows.length:Int),0)
def aer:Fsp:=⟨299,[shT .val],[shF .bool],true,false,fun x=>Dj x⟩
def jU(a:aF):Option (Bool):=bif ((a.columns.length:Int)==0)then bif (a.n==0)then bif (a.step==0)then bif (a.text==[])then (Dj (aF.mk 5 a.n a.step a.text [] a.columns a.rows)).bind fun b=>some (b)else some (false)else some (false)else some (false)else bif (a.n==0)then bif (a.step==0)then bif (a.text==[])then (Dj (aF.mk 5 a.n a.step a.text [] a.columns a.rows)).bind fun c=>some (c)else some (false)else some (false)else some (false)
def qp(a:aF):Option (Bool):=bif (a.kind==5)&&a.list.isEmpty then jU a else none
def iI:Fsp:=⟨278,[shT .val],[shF .bool],true,false,fun x=>qp x⟩
def nP(a:Str):Option (aF×Bool):=(kR a [59,32]).bind fun c=>(idx c 0).bind fun _=>(c[0]?).bind fun f=>(lH f 32).bind fun g=>(eff.cutL c (some 1) none).bind fun e=>au (fun(⟨j,k,l,m,n,o,p,q,s,t,u,v,w,x,y,z,A⟩:Int×Int×Int×Str×(List aF)×(List Str)×(List bD)×Int×Int×Int×Str×(List aF)×(List Str)×(List bD)×(List Str)×Int×Int)=>bif (decide (A<z))then (idx y A).bind fun h=>(yx h (w.length:Int)).bind fun d=>bif (!d.2)then some (.inr (aF.mk 0 0 0 [] [] [] [],false))else (gd (x.length+([bD.mk d.1 []]).length)).bind fun _=>some (.inl (j,k,l,m,n,o,p,q,s,t,u,v,w,x++([bD.mk d.1 []]),y,z,w64 (A+1)))else ((qp (aF.mk q s t u v w x)).bind fun i=>bif (!i)then some (aF.mk 0 0 0 [] [] [] [],false)else some (aF.mk q s t u v w x,true)).bind fun r=>some (.inr r)) (0,0,0,[],[],[],[],5,0,0,[],[],g,[],e,(e.length:Int),0)
def YO:Fsp:=⟨241,[shF .str],[shT .val,shF .bool],true,false,fun x=>nP x⟩
def zX(a:Str):Option (Int):=(nP a).bind fun g=>bif g.2 then some ((-1))else (kR a [59,32]).bind fun c=>(idx c 0).bind fun _=>(c[0]?).bind fun h=>(lH h 32).bind fun e=>(qY e).bind fun i=>bif (!i)then some (0)else (eff.cutL c (some 1) none).bind fun f=>au (fun(⟨k,l,m,n⟩:(List Str)×(List Str)×Int×Int)=>bif (decide (n<m))then (idx l n).bind fun j=>(yx j (k.length:Int)).bind fun d=>bif (!d.2)then some (.inr (w64 (n+1)))else bif (decide (n>=12))then some (.inr (w64 (n+1)))else some (.inl (k,l,m,w64 (n+1)))else some (.inr ((-1)))) (e,f,(f.length:Int),0)
def YX:Fsp:=⟨242,[shF .str],[shF .int],true,false,fun x=>zX x⟩
def sD(a:Int)(b:aF):Option (aF):=bif (b.kind != 5)then (lJ 4).bind fun e=>some (dD e)else (qp (dD b)).bind fun f=>bif (!f)then (lJ 4).bind fun g=>some (dD g)else bif (decide (a<0))then (lJ 4).bind fun h=>some (dD h)else (nS (dD b)).bind fun d=>au (fun(⟨j,k,l,m,o,p,q,r,s,t,u,v,w,x,y,z,A⟩:Int×Int×Int×Int×Str×(List aF)×(List Str)×(List bD)×Int×Int×Int×Str×(List aF)×(List Str)×(List bD)×Int×Int)=>bif (decide (A<z))then (idx y A).bind fun _=>(y[A.toNat]?).bind fun i=>some (.inl (j,k,l,m,o,p,q,r,s,t,u,v,w,x,y.set A.toNat (bD.mk i.cells [bQ.mk j A]),z,w64 (A+1)))else some (.inr (aF.mk s t u v w x y))) (a,0,0,0,[],[],[],[],d.kind,d.n,d.step,d.text,d.list,d.columns,d.rows,(d.rows.length:Int),0)
def Ru:Fsp:=⟨243,[shF .int,shT .val],[shT .val],true,false,fun x=>sD x.1 x.2⟩
def lW(a:ah):Option (bH):=(cZ a).bind fun d=>bif (!d)then some (bH.mk 0 [] (af.mk 0 0 [] []) (aF.mk 0 0 0 [] [] [] []) 0)else bif (a.kind==1)then some (bH.mk 1 [] (af.mk 0 0 [] []) (aF.mk 0 0 0 [] [] [] []) 0)else bif (a.kind==3)then (zV a.n).bind fun e=>some (bH.mk 3 a.name (af.mk 0 0 [] []) (dD e) 0)else bif (a.kind==2)then (qf a.code).bind fun b=>bif (decide (b.2>=0))then (lJ 8).bind fun f=>some (bH.mk 4 a.name (af.mk 0 0 [] []) (dD f) b.2)else some (bH.mk 2 a.name (aj b.1) (aF.mk 0 0 0 [] [] [] []) 0)else (nP a.code).bind fun c=>bif (!c.2)then (lJ 8).bind fun g=>(zX a.code).bind fun h=>some (bH.mk 4 a.name (af.mk 0 0 [] []) (dD g) h)else (sD a.id (dD c.1)).bind fun i=>some (bH.mk 3 a.name (af.mk 0 0 [] []) (dD i) 0)
def Sj:Fsp:=⟨187,[shT .cell],[shT .part],false,false,fun x=>lW x⟩
def oD(a:ak):Option ((List bH)):=(fH a).bind fun d=>bif (!d)then some ([])else au (fun(⟨f,g,h,i⟩:(List bH)×(List ah)×Int×Int)=>bif (decide (i<h))then (idx g i).bind fun e=>(lW e).bind fun c=>(gd (f.length+[jS c].length)).bind fun _=>some (.inl (f++[jS c],g,h,w64 (i+1)))else some (.inr (f))) ([],a.cells,(a.cells.length:Int),0)
def U2:Fsp:=⟨143,[shT .notebook],[slF .part],false,true,fun x=>oD x⟩
def tC(a:List bH)(b:Str):Option ((List Int)):=au (fun(⟨e,f,g,h,i⟩:Str×(List Int)×(List bH)×Int×Int)=>bif (decide (i<h))then (idx g i).bind fun d=>bif (d.kind != 1)then bif (d.name==e)then (gd (f.length+[i].length)).bind fun _=>some (.inl (e,f++[i],g,h,w64 (i+1)))else some (.inl (e,f,g,h,w64 (i+1)))else some (.inl (e,f,g,h,w64 (i+1)))else some (.inr (f))) (b,[],a,(a.length:Int),0)
def abA:Fsp:=⟨146,[slF .part,shF .str],[slF .int],true,false,fun x=>tC x.1 x.2⟩
def CQ(a:List bH)(b:Str):Option (Int):=(tC a b).bind fun c=>bif ((c.length:Int)==0)then some ((-1))else bif ((c.length:Int)==1)then (idx c 0).bind fun _=>(c[0]?).bind fun d=>some (d)else some ((-2))
def aei:Fsp:=⟨145,[slF .part,shF .str],[shF .int],true,false,fun x=>CQ x.1 x.2⟩
def su(a:bH):Option ((List Str)):=bif (a.kind != 2)then some ([])else (nR (aj a.expr)).bind fun b=>some (b)
def aho:Fsp:=⟨147,[shT .part],[slF .str],true,false,fun x=>su x⟩
def nO(a:ak)(b:Str)(c:Str)(d:Bool):Option (ak×Int):=(oD a).bind fun o=>(fH a).bind fun C=>bif (!C)then none else (bI b).bind fun D=>bif (!D)then none else (bI c).bind fun E=>bif (!E)then none else bif (b==c)then none else (CQ o b).bind fun B=>bif (decide (B<0))then none else (tC o c).bind fun F=>au (fun(⟨H,I,J,K,L,M,N,O,P,Q,R,S⟩:Str×Str×Bool×(List ah)×(List ah)×(List bH)×Int×Bool×Bool×(List bH)×Int×Int)=>bif (decide (S<R))then (idx Q S).bind fun p=>bif O then bif P then some (.inl (H,I,J,K,L,M,N,true,true,Q,R,w64 (S+1)))else bif (p.kind==2)then (iy (aj p.expr) H I).bind fun G=>some (.inl (H,I,J,K,L,M,N,true,G,Q,R,w64 (S+1)))else some (.inl (H,I,J,K,L,M,N,true,false,Q,R,w64 (S+1)))else (su (jS p)).bind fun s=>(jC s I).bind fun l=>bif P then some (.inl (H,I,J,K,L,M,N,(decide (l>=0)),true,Q,R,w64 (S+1)))else bif (p.kind==2)then (iy (aj p.expr) H I).bind fun t=>some (.inl (H,I,J,K,L,M,N,(decide (l>=0)),t,Q,R,w64 (S+1)))else some (.inl (H,I,J,K,L,M,N,(decide (l>=0)),false,Q,R,w64 (S+1)))else (bif O then none else bif P then none else (bT (ak.mk K)).bind fun m=>(idx m.cells N).bind fun _=>(m.cells[N.toNat]?).bind fun i=>au (fun(⟨g,T,U,V,W,X,Y,Z,aa,ac⟩:Str×Str×Bool×(List ah)×(List ah)×(List ah)×Bool×(List bH)×Int×Int)=>bif (decide (ac<aa))then (idx Z ac).bind fun q=>(su (jS q)).bind fun u=>(jC u g).bind fun v=>bif (decide (v<0))then some (.inl (g,T,U,V,W,X,Y,Z,aa,w64 (ac+1)))else (kG (aj q.expr) g T).bind fun w=>(kH (aj w.1)).bind fun h=>(idx X ac).bind fun _=>(X[ac.toNat]?).bind fun f=>(idx (X.set ac.toNat (ah.mk f.id f.version f.kind f.name h f.n)) ac).bind fun _=>((X.set ac.toNat (ah.mk f.id f.version f.kind f.name h f.n))[ac.toNat]?).bind fun x=>bif (decide ((x.code.length:Int)>120))then none else bif U then bif Y then (idx (X.set ac.toNat (ah.mk f.id f.version f.kind f.name h f.n)) ac).bind fun _=>((X.set ac.toNat (ah.mk f.id f.version f.kind f.name h f.n))[ac.toNat]?).bind fun y=>(idx (X.set ac.toNat (ah.mk f.id f.version f.kind f.name h f.n)) ac).bind fun _=>((X.set ac.toNat (ah.mk f.id f.version f.kind f.name h f.n))[ac.toNat]?).bind fun j=>some (.inl (g,T,U,V,W,(X.set ac.toNat (ah.mk f.id f.version f.kind f.name h f.n)).set ac.toNat (ah.mk j.id (w64 (y.version+1)) j.kind j.name j.code j.n),true,Z,aa,w64 (ac+1)))
      else
       (idx (X.set ac.toNat (ah.mk f.id f.version f.kind f.name h f.n)) ac).bind fun _=>
       ((X.set ac.toNat (ah.mk f.id f.version f.kind f.name h f.n))[ac.toNat]?).bind fun z=>
       (idx (X.set ac.toNat (ah.mk f.id f.version f.kind f.name h f.n)) ac).bind fun _=>
       ((X.set ac.toNat (ah.mk f.id f.version f.kind f.name h f.n))[ac.toNat]?).bind fun A=>
       (idx (X.set ac.toNat (ah.mk f.id f.version f.kind f.name h f.n)) ac).bind fun _=>
       ((X.set ac.toNat (ah.mk f.id f.version f.kind f.name h f.n))[ac.toNat]?).bind fun k=>
       some (.inl (g,T,U,V,W,(X.set ac.toNat (ah.mk f.id f.version f.kind f.name h f.n)).set ac.toNat (ah.mk k.id (w64 (A.version+1)) k.kind k.name k.code k.n),(decide (z.version>=999)),Z,aa,w64 (ac+1)))
     else
      some (.inl (g,T,U,V,W,X.set ac.toNat (ah.mk f.id f.version f.kind f.name h f.n),Y,Z,aa,w64 (ac+1)))
    else
     (
      bif Y then
       none
      else
       some (ak.mk X,0)
     ).bind fun r=>some (.inr r)
   ) (H,I,J,K,L,m.cells.set N.toNat (ah.mk i.id i.version i.kind I i.code i.n),false,M,(M.length:Int),0)
  ).bind fun r=>some (.inr r)
 ) (b,c,d,a.cells,[],o,B,(decide ((F.length:Int)>0)),false,o,(o.length:Int),0)
def YI:Fsp:=⟨96,[shT .notebook,shF .str,shF .str,shF .bool],[shT .notebook,shF .int],true,false,fun x=>nO x.1 x.2.1 x.2.2.1 x.2.2.2⟩
def qc(a:ak)(b:Str)(c:Str)(d:Bool):Option (ak×Int):=(oD a).bind fun o=>(fH a).bind fun C=>bif (!C)then some (a,1)else (bI b).bind fun D=>bif (!D)then some (a,1)else (bI c).bind fun E=>bif (!E)then some (a,1)else bif (b==c)then some (a,1)else (CQ o b).bind fun B=>bif (decide (B<0))then some (a,2)else (tC o c).bind fun F=>au (fun(⟨H,I,J,K,L,M,N,O,P,Q,R,S⟩:Str×Str×Bool×(List ah)×(List ah)×(List bH)×Int×Bool×Bool×(List bH)×Int×Int)=>bif (decide (S<R))then (idx Q S).bind fun p=>bif O then bif P then some (.inl (H,I,J,K,L,M,N,true,true,Q,R,w64 (S+1)))else bif (p.kind==2)then (iy (aj p.expr) H I).bind fun G=>some (.inl (H,I,J,K,L,M,N,true,G,Q,R,w64 (S+1)))else some (.inl (H,I,J,K,L,M,N,true,false,Q,R,w64 (S+1)))else (su (jS p)).bind fun s=>(jC s I).bind fun l=>bif P then some (.inl (H,I,J,K,L,M,N,(decide (l>=0)),true,Q,R,w64 (S+1)))else bif (p.kind==2)then (iy (aj p.expr) H I).bind fun t=>some (.inl (H,I,J,K,L,M,N,(decide (l>=0)),t,Q,R,w64 (S+1)))else some (.inl (H,I,J,K,L,M,N,(decide (l>=0)),false,Q,R,w64 (S+1)))else (bif O then some (ak.mk K,3)else bif P then some (ak.mk K,4)else (bT (ak.mk K)).bind fun m=>(idx m.cells N).bind fun _=>(m.cells[N.toNat]?).bind fun i=>au (fun(⟨g,T,U,V,W,X,Y,Z,aa,ac⟩:Str×Str×Bool×(List ah)×(List ah)×(List ah)×Bool×(List bH)×Int×Int)=>bif (decide (ac<aa))then (idx Z ac).bind fun q=>(su (jS q)).bind fun u=>(jC u g).bind fun v=>bif (decide (v<0))then some (.inl (g,T,U,V,W,X,Y,Z,aa,w64 (ac+1)))else (kG (aj q.expr) g T).bind fun w=>(kH (aj w.1)).bind fun h=>(idx X ac).bind fun _=>(X[ac.toNat]?).bind fun f=>(idx (X.set ac.toNat (ah.mk f.id f.version f.kind f.name h f.n)) ac).bind fun _=>((X.set ac.toNat (ah.mk f.id f.version f.kind f.name h f.n))[ac.toNat]?).bind fun x=>bif (decide ((x.code.length:Int)>120))then some (.inr (ak.mk V,5))else bif U then bif Y then (idx (X.set ac.toNat (ah.mk f.id f.version f.kind f.name h f.n)) ac).bind fun _=>((X.set ac.toNat (ah.mk f.id f.version f.kind f.name h f.n))[ac.toNat]?).bind fun y=>(idx (X.set ac.toNat (ah.mk f.id f.version f.kind f.name h f.n)) ac).bind fun _=>((X.set ac.toNat (ah.mk f.id f.version f.kind f.name h f.n))[ac.toNat]?).bind fun j=>some (.inl (g,T,U,V,W,(X.set ac.toNat (ah.mk f.id f.version f.kind f.name h f.n)).set ac.toNat (ah.mk j.id (w64 (y.version+1)) j.kind j.name j.code j.n),true,Z,aa,w64 (ac+1)))
      else
       (idx (X.set ac.toNat (ah.mk f.id f.version f.kind f.name h f.n)) ac).bind fun _=>
       ((X.set ac.toNat (ah.mk f.id f.version f.kind f.name h f.n))[ac.toNat]?).bind fun z=>
       (idx (X.set ac.toNat (ah.mk f.id f.version f.kind f.name h f.n)) ac).bind fun _=>
       ((X.set ac.toNat (ah.mk f.id f.version f.kind f.name h f.n))[ac.toNat]?).bind fun A=>
       (idx (X.set ac.toNat (ah.mk f.id f.version f.kind f.name h f.n)) ac).bind fun _=>
       ((X.set ac.toNat (ah.mk f.id f.version f.kind f.name h f.n))[ac.toNat]?).bind fun k=>
       some (.inl (g,T,U,V,W,(X.set ac.toNat (ah.mk f.id f.version f.kind f.name h f.n)).set ac.toNat (ah.mk k.id (w64 (A.version+1)) k.kind k.name k.code k.n),(decide (z.version>=999)),Z,aa,w64 (ac+1)))
     else
      some (.inl (g,T,U,V,W,X.set ac.toNat (ah.mk f.id f.version f.kind f.name h f.n),Y,Z,aa,w64 (ac+1)))
    else
     (
      bif Y then
       some (ak.mk V,6)
      else
       some (ak.mk X,0)
     ).bind fun r=>some (.inr r)
   ) (H,I,J,K,L,m.cells.set N.toNat (ah.mk i.id i.version i.kind I i.code i.n),false,M,(M.length:Int),0)
  ).bind fun r=>some (.inr r)
 ) (b,c,d,a.cells,[],o,B,(decide ((F.length:Int)>0)),false,o,(o.length:Int),0)
def abn:Fsp:=⟨96,[shT .notebook,shF .str,shF .str,shF .bool],[shT .notebook,shF .int],false,false,fun x=>qc x.1 x.2.1 x.2.2.1 x.2.2.2⟩
def kN(a:ak)(b:Str)(c:Str):Option (ak×Bool):=(bT a).bind fun i=>au (fun(⟨k,l,m,o,p,q,s⟩:Str×Str×(List ah)×(List ah)×(List ah)×Int×Int)=>bif (decide (s<q))then (idx p s).bind fun _=>(p[s.toNat]?).bind fun f=>some (.inl (k,l,m,o,p.set s.toNat (ah.mk f.id 1 f.kind f.name f.code f.n),q,w64 (s+1)))else ((nO (ak.mk p) k l false).bind fun h=>bif (h.2 != 0)then none else au (fun(⟨d,t,u,v,w⟩:(List ah)×(List ah)×(List ah)×Int×Int)=>bif (decide (w<v))then (idx d w).bind fun j=>(idx u w).bind fun _=>(u[w.toNat]?).bind fun g=>some (.inl (d,t,u.set w.toNat (ah.mk g.id j.version g.kind g.name g.code g.n),v,w64 (w+1)))else some (.inr (ak.mk u,true))) (m,o,h.1.cells,(h.1.cells.length:Int),0)).bind fun r=>some (.inr r)) (b,c,a.cells,[],i.cells,(i.cells.length:Int),0)
def RG:Fsp:=⟨45,[shT .notebook,shF .str,shF .str],[shT .notebook,shF .bool],true,false,fun x=>kN x.1 x.2.1 x.2.2⟩
def oP(a:ak)(b:Str)(c:Str):Option (ak×Bool):=(bT a).bind fun h=>au (fun(⟨k,l,m,o,p,q,s⟩:Str×Str×(List ah)×(List ah)×(List ah)×Int×Int)=>bif (decide (s<q))then (idx p s).bind fun _=>(p[s.toNat]?).bind fun f=>some (.inl (k,l,m,o,p.set s.toNat (ah.mk f.id 1 f.kind f.name f.code f.n),q,w64 (s+1)))else ((qc (ak.mk p) k l false).bind fun g=>bif (g.2 != 0)then some (ak.mk m,false)else au (fun(⟨d,_,t,u,v⟩:(List ah)×(List ah)×(List ah)×Int×Int)=>bif (decide (v<u))then (idx d v).bind fun i=>(idx t v).bind fun j=>none else some (.inr (ak.mk t,true))) (m,o,g.1.cells,(g.1.cells.length:Int),0)).bind fun r=>some (.inr r)) (b,c,a.cells,[],h.cells,(h.cells.length:Int),0)
def RD:Fsp:=⟨45,[shT .notebook,shF .str,shF .str],[shT .notebook,shF .bool],false,false,fun x=>oP x.1 x.2.1 x.2.2⟩
def GK(a:List aJ)(b:Int)(c:Int):Option (Int):=au (fun(⟨f,g,h,i,j⟩:Int×Int×(List aJ)×Int×Int)=>bif (decide (j<i))then (idx h j).bind fun e=>bif (e.cell==f)then bif (e.version==g)then some (.inr (j))else some (.inl (f,g,h,i,w64 (j+1)))else some (.inl (f,g,h,i,w64 (j+1)))else some (.inr ((-1)))) (b,c,a,(a.length:Int),0)
def Yz:Fsp:=⟨98,[slF .tape,shF .int,shF .int],[shF .int],true,false,fun x=>GK x.1 x.2.1 x.2.2⟩
def yc(a:aO)(b:aO):Option (Bool):=bif (a.kind==b.kind)then bif (a.n==b.n)then bif (a.text==b.text)then some ((a.time==b.time))else some (false)else some (false)else some (false)
def abl:Fsp:=⟨193,[shT .read,shT .read],[shF .bool],true,false,fun x=>yc x.1 x.2⟩
def EF(a:List aO)(b:aO):Option (aF×Bool):=au (fun(⟨g,h,i,j,k,l,m,o,p,q,r,s,t,u,v,w,x,y,z,A,B⟩:Int×Int×Int×Str×Int×Int×Int×Str×(List aF)×(List Str)×(List bD)×Int×Int×Int×Str×(List aF)×(List Str)×(List bD)×(List aO)×Int×Int)=>bif (decide (B<A))then (idx z B).bind fun d=>(yc (iZ d) (aO.mk g h i j (aF.mk k l m o p q r))).bind fun e=>bif e then (nS (dD d.result)).bind fun f=>some (.inr (dD f,true))else some (.inl (g,h,i,j,k,l,m,o,p,q,r,s,t,u,v,w,x,y,z,A,w64 (B+1)))else some (.inr (aF.mk 0 0 0 [] [] [] [],false))) (b.kind,b.n,b.time,b.text,b.result.kind,b.result.n,b.result.step,b.result.text,b.result.list,b.result.columns,b.result.rows,0,0,0,[],[],[],[],a,(a.length:Int),0)
def aby:Fsp:=⟨150,[slF .read,shT .read],[shT .val,shF .bool],true,false,fun x=>EF x.1 x.2⟩
def qV(a:List aO)(b:List aO):Option ((List aO)):=(nT a).bind fun f=>au (fun(⟨h,i,j,k⟩:(List aO)×(List aO)×Int×Int)=>bif (decide (k<j))then (idx i k).bind fun d=>(EF h (iZ d)).bind fun g=>bif (!g.2)then (nT [iZ d]).bind fun e=>(gd (h.length+e.length)).bind fun _=>some (.inl (h++e,i,j,w64 (k+1)))else some (.inl (h,i,j,w64 (k+1)))else some (.inr (h))) (f,b,(b.length:Int),0)
def UQ:Fsp:=⟨99,[slF .read,slF .read],[slF .read],true,false,fun x=>qV x.1 x.2⟩
def CP(a:aJ)(b:aJ):Option (Bool):=bif (decide (a.cell<b.cell))then some (true)else bif (a.cell==b.cell)then some ((decide (a.version<b.version)))else some (false)
def UE:Fsp:=⟨100,[shT .tape,shT .tape],[shF .bool],true,false,fun x=>CP x.1 x.2⟩
def yh(a:List aJ)(b:Int)(c:Int)(d:List aO):Option ((List aJ)):=(zY a).bind fun h=>(GK a b c).bind fun i=>bif (decide (i>=0))then (idx h i).bind fun _=>(h[i.toNat]?).bind fun m=>(qV m.reads d).bind fun n=>(idx h i).bind fun _=>(h[i.toNat]?).bind fun l=>some (h.set i.toNat (aJ.mk l.cell l.version n))else bif ((d.length:Int)==0)then some (h)else (qV [] d).bind fun o=>au (fun(⟨p,q,s,t,u⟩:(List aJ)×Int×Int×Int×(List aO))=>bif (decide (q<(p.length:Int)))then (idx p q).bind fun _=>(p[q.toNat]?).bind fun j=>(CP (aJ.mk s t u) j).bind fun k=>bif (!k)then some (.inl (p,w64 (q+1),s,t,u))else ((cutAt p q).bind fun f=>((if q=(f:Int)then some ()else none)).bind fun _=>(gd (0+(p.take f).length)).bind fun _=>(gd (([]++(p.take f)).length+[aJ.mk s t u].length)).bind fun _=>((if q=(f:Int)then some ()else none)).bind fun _=>(gd ((([]++(p.take f))++[aJ.mk s t u]).length+(p.drop f).length)).bind fun _=>some ((([]++(p.take f))++[aJ.mk s t u])++(p.drop f))).bind fun r=>some (.inr r)else ((cutAt p q).bind fun g=>((if q=(g:Int)then some ()else none)).bind fun _=>(gd (0+(p.take g).length)).bind fun _=>(gd (([]++(p.take g)).length+[aJ.mk s t u].length)).bind fun _=>((if q=(g:Int)then some ()else none)).bind fun _=>(gd ((([]++(p.take g))++[aJ.mk s t u]).length+(p.drop g).length)).bind fun _=>some ((([]++(p.take g))++[aJ.mk s t u])++(p.drop g))).bind fun r=>some (.inr r)) (h,0,b,c,o)
def ael:Fsp:=⟨47,[slF .tape,shF .int,shF .int,slF .read],[slF .tape],true,false,fun x=>yh x.1 x.2.1 x.2.2.1 x.2.2.2⟩
def jd(a:aN)(b:GOp)(c:List GOp):Option (aN):=(mW a).bind fun d=>bif (b.kind==1)then (zZ b.edit c).bind fun q=>(uP a.notebook q).bind fun e=>bif (e.2 != 0)then some (d)else bif (b.edit.kind==1)then (gU e.1 b.edit.cell.id).bind fun l=>(iR b).bind fun r=>(idx e.1.cells l).bind fun _=>(e.1.cells[l.toNat]?).bind fun i=>some (aN.mk (ak.mk (e.1.cells.set l.toNat (ah.mk i.id r i.kind i.name i.code i.n))) d.tapes d.renames)else bif (b.edit.kind==4)then (gU e.1 b.edit.cell.id).bind fun m=>(iR b).bind fun s=>(idx e.1.cells m).bind fun _=>(e.1.cells[m.toNat]?).bind fun f=>some (aN.mk (ak.mk (e.1.cells.set m.toNat (ah.mk f.id s f.kind f.name f.code f.n))) d.tapes d.renames)else bif (b.edit.kind==6)then (gU e.1 b.edit.cell.id).bind fun h=>(iR b).bind fun o=>(idx e.1.cells h).bind fun _=>(e.1.cells[h.toNat]?).bind fun g=>some (aN.mk (ak.mk (e.1.cells.set h.toNat (ah.mk g.id o g.kind g.name g.code g.n))) d.tapes d.renames)else some (aN.mk e.1 d.tapes d.renames)else bif (b.kind==2)then (kN a.notebook b.src b.dst).bind fun j=>bif j.2 then (EG b).bind fun k=>(gd (d.renames.length+[k].length)).bind fun _=>some (aN.mk j.1 d.tapes (d.renames++[k]))else some (d)else bif (b.kind==3)then (yh d.tapes b.cell b.version b.reads).bind fun p=>some (aN.mk d.notebook p d.renames)else some (d)
def YE:Fsp:=⟨12,[shT .document,shT .op,slF .op],[shT .document],true,false,fun x=>jd x.1 x.2.1 x.2.2⟩
def zT(a:aN)(b:GOp)(c:List GOp):Option (aN):=(mW a).bind fun d=>bif (b.kind==1)then (zZ b.edit c).bind fun q=>(uP a.notebook q).bind fun e=>bif (e.2 != 0)then some (d)else bif (b.edit.kind==1)then (gU e.1 b.edit.cell.id).bind fun j=>(iR b).bind fun r=>(idx e.1.cells j).bind fun _=>(e.1.cells[j.toNat]?).bind fun i=>some (aN.mk (ak.mk (e.1.cells.set j.toNat (ah.mk i.id r i.kind i.name i.code i.n))) d.tapes d.renames)else bif (b.edit.kind==4)then (gU e.1 b.edit.cell.id).bind fun k=>(iR b).bind fun s=>(idx e.1.cells k).bind fun _=>(e.1.cells[k.toNat]?).bind fun f=>some (aN.mk (ak.mk (e.1.cells.set k.toNat (ah.mk f.id s f.kind f.name f.code f.n))) d.tapes d.renames)else bif (b.edit.kind==6)then (gU e.1 b.edit.cell.id).bind fun h=>(iR b).bind fun l=>(idx e.1.cells h).bind fun _=>(e.1.cells[h.toNat]?).bind fun g=>some (aN.mk (ak.mk (e.1.cells.set h.toNat (ah.mk g.id l g.kind g.name g.code g.n))) d.tapes d.renames)else some (aN.mk e.1 d.tapes d.renames)else bif (b.kind==2)then (oP a.notebook b.src b.dst).bind fun m=>bif m.2 then (EG b).bind fun o=>(gd (d.renames.length+[o].length)).bind fun _=>none else some (d)else bif (b.kind==3)then (yh d.tapes b.cell b.version b.reads).bind fun p=>some (aN.mk d.notebook p d.renames)else some (d)
def YD:Fsp:=⟨12,[shT .document,shT .op,slF .op],[shT .document],true,false,fun x=>zT x.1 x.2.1 x.2.2⟩
def ou(a:aN)(b:GOp)(c:List GOp):Option (aN):=(jd a b c).or (zT a b c)
def abm:Fsp:=⟨12,[shT .document,shT .op,slF .op],[shT .document],true,false,fun x=>ou x.1 x.2.1 x.2.2⟩
def Zj(a:List Int)(b:List Int):Option (Bool):=bif ((a.length:Int) != (b.length:Int))then some (false)else au (fun(⟨f,g,h⟩:(List Int)×(List Int)×Int)=>bif (decide (h<(f.length:Int)))then (idx f h).bind fun d=>(idx g h).bind fun e=>bif (d != e)then some (.inr (false))else some (.inl (f,g,w64 (h+1)))else some (.inr (true))) (a,b,0)
def aky:Fsp:=⟨50,[slF .int,slF .int],[shF .bool],true,false,fun x=>Zj x.1 x.2⟩
def SS(a:ah)(b:ah):Option (Bool):=bif (a.id != b.id)then some (false)else bif (a.version != b.version)then some (false)else bif (a.kind != b.kind)then some (false)else bif (!(a.name==b.name))then some (false)else bif (!(a.code==b.code))then some (false)else bif (a.n != b.n)then some (false)else some (true)
def akA:Fsp:=⟨103,[shT .cell,shT .cell],[shF .bool],true,false,fun x=>SS x.1 x.2⟩
def Zk(a:dP)(b:dP):Option (Bool):=bif (a.kind != b.kind)then some (false)else bif (a.pos != b.pos)then some (false)else (SS a.cell b.cell).bind fun c=>bif (!c)then some (false)else some (true)
def akz:Fsp:=⟨51,[shT .edit,shT .edit],[shF .bool],true,false,fun x=>Zk x.1 x.2⟩
def Le(a:List Str)(b:List Str):Option (Bool):=bif ((a.length:Int) != (b.length:Int))then some (false)else au (fun(⟨f,g,h⟩:(List Str)×(List Str)×Int)=>bif (decide (h<(f.length:Int)))then (idx f h).bind fun d=>(idx g h).bind fun e=>bif (!(d==e))then some (.inr (false))else some (.inl (f,g,w64 (h+1)))else some (.inr (true))) (a,b,0)
def abW:Fsp:=⟨195,[slF .str,slF .str],[shF .bool],true,false,fun x=>Le x.1 x.2⟩
def Jk(a:bQ)(b:bQ):Option (Bool):=bif (a.cell != b.cell)then some (false)else bif (a.row != b.row)then some (false)else some (true)
def aeJ:Fsp:=⟨302,[shT .origin,shT .origin],[shF .bool],true,false,fun x=>Jk x.1 x.2⟩
def Lh(a:List bQ)(b:List bQ):Option (Bool):=bif ((a.length:Int) != (b.length:Int))then some (false)else au (fun(⟨g,h,i⟩:(List bQ)×(List bQ)×Int)=>bif (decide (i<(g.length:Int)))then (idx g i).bind fun d=>(idx h i).bind fun e=>(Jk d e).bind fun f=>bif (!f)then some (.inr (false))else some (.inl (g,h,w64 (i+1)))else some (.inr (true))) (a,b,0)
def abY:Fsp:=⟨280,[slF .origin,slF .origin],[shF .bool],true,false,fun x=>Lh x.1 x.2⟩
def afX(a:bD)(b:bD):Option (Bool):=(Zj a.cells b.cells).bind fun c=>bif (!c)then some (false)else (Lh a.orig b.orig).bind fun d=>bif (!d)then some (false)else some (true)
def amk:Fsp:=⟨245,[shT .row,shT .row],[shF .bool],true,false,fun x=>afX x.1 x.2⟩
def aeI(a:List bD)(b:List bD):Option (Bool):=bif ((a.length:Int) != (b.length:Int))then some (false)else au (fun(⟨g,h,i⟩:(List bD)×(List bD)×Int)=>bif (decide (i<(g.length:Int)))then (idx g i).bind fun d=>(idx h i).bind fun e=>(afX d e).bind fun f=>bif (!f)then some (.inr (false))else some (.inl (g,h,w64 (i+1)))else some (.inr (true))) (a,b,0)
def aku:Fsp:=⟨196,[slF .row,slF .row],[shF .bool],true,false,fun x=>aeI x.1 x.2⟩
def SK(reqValue:aF->aF->Option (Bool))(reqValueS:(List aF)->(List aF)->Option (Bool))(a:aF)(b:aF):Option (Bool):=bif (a.kind != b.kind)then some (false)else bif (a.n != b.n)then some (false)else bif (a.step != b.step)then some (false)else bif (!(a.text==b.text))then some (false)else (reqValueS a.list b.list).bind fun c=>bif (!c)then some (false)else (Le a.columns b.columns).bind fun d=>bif (!d)then some (false)else (aeI a.rows b.rows).bind fun e=>bif (!e)then some (false)else some (true)
def ahI(reqValue:aF->aF->Option (Bool))(reqValueS:(List aF)->(List aF)->Option (Bool))(a:List aF)(b:List aF):Option (Bool):=bif ((a.length:Int) != (b.length:Int))then some (false)else au (fun(⟨g,h,i⟩:(List aF)×(List aF)×Int)=>bif (decide (i<(g.length:Int)))then (idx g i).bind fun d=>(idx h i).bind fun e=>(reqValue (dD d) (dD e)).bind fun f=>bif (!f)then some (.inr (false))else some (.inl (g,h,w64 (i+1)))else some (.inr (true))) (a,b,0)
def jX:Nat->(aF->aF->Option (Bool))×((List aF)->(List aF)->Option (Bool))
 | 0=>(fun _ _=>none,fun _ _=>none)
 | n+1=>(SK (jX n).1 (jX n).2,ahI (jX n).1 (jX n).2)
def Zd(a:aF)(b:aF):Option (Bool):=(jX (siz a+siz b+1)).1 a b
def ahJ:Fsp:=⟨151,[shT .val,shT .val],[shF .bool],true,false,fun x=>Zd x.1 x.2⟩
def SI(n:Nat):Fsp:=⟨151,[shT .val,shT .val],[shF .bool],true,false,fun x=>(jX n).1 x.1 x.2⟩
def akr(a:List aF)(b:List aF):Option (Bool):=(jX (siz a+siz b+1)).2 a b
def aeG:Fsp:=⟨194,[slF .val,slF .val],[shF .bool],true,false,fun x=>akr x.1 x.2⟩
def Nr(n:Nat):Fsp:=⟨194,[slF .val,slF .val],[shF .bool],true,false,fun x=>(jX n).2 x.1 x.2⟩
def SQ(a:aO)(b:aO):Option (Bool):=bif (a.kind != b.kind)then some (false)else bif (a.n != b.n)then some (false)else bif (a.time != b.time)then some (false)else bif (!(a.text==b.text))then some (false)else (Zd (dD a.result) (dD b.result)).bind fun c=>bif (!c)then some (false)else some (true)
def akv:Fsp:=⟨104,[shT .read,shT .read],[shF .bool],true,false,fun x=>SQ x.1 x.2⟩
def Ox(a:List aO)(b:List aO):Option (Bool):=bif ((a.length:Int) != (b.length:Int))then some (false)else au (fun(⟨g,h,i⟩:(List aO)×(List aO)×Int)=>bif (decide (i<(g.length:Int)))then (idx g i).bind fun d=>(idx h i).bind fun e=>(SQ (iZ d) (iZ e)).bind fun f=>bif (!f)then some (.inr (false))else some (.inl (g,h,w64 (i+1)))else some (.inr (true))) (a,b,0)
def ahO:Fsp:=⟨52,[slF .read,slF .read],[shF .bool],true,false,fun x=>Ox x.1 x.2⟩
def akx(a:GOp)(b:GOp):Option (Bool):=bif (a.time != b.time)then some (false)else bif (a.by_ != b.by_)then some (false)else bif (a.kind != b.kind)then some (false)else (Zj a.seen b.seen).bind fun c=>bif (!c)then some (false)else (Zk a.edit b.edit).bind fun d=>bif (!d)then some (false)else bif (!(a.src==b.src))then some (false)else bif (!(a.dst==b.dst))then some (false)else bif (a.cell != b.cell)then some (false)else bif (a.version != b.version)then some (false)else (Ox a.reads b.reads).bind fun e=>bif (!e)then some (false)else some (true)
def ap7:Fsp:=⟨14,[shT .op,shT .op],[shF .bool],true,false,fun x=>akx x.1 x.2⟩
def V9(a:List GOp)(b:List GOp):Option (Bool):=bif ((a.length:Int) != (b.length:Int))then some (false)else au (fun(⟨g,h,i⟩:(List GOp)×(List GOp)×Int)=>bif (decide (i<(g.length:Int)))then (idx g i).bind fun d=>(idx h i).bind fun e=>(akx d e).bind fun f=>bif (!f)then some (.inr (false))else some (.inl (g,h,w64 (i+1)))else some (.inr (true))) (a,b,0)
def amm:Fsp:=⟨15,[slF .op,slF .op],[shF .bool],true,false,fun x=>V9 x.1 x.2⟩
def Zm(a:List ah)(b:List ah):Option (Bool):=bif ((a.length:Int) != (b.length:Int))then some (false)else au (fun(⟨g,h,i⟩:(List ah)×(List ah)×Int)=>bif (decide (i<(g.length:Int)))then (idx g i).bind fun d=>(idx h i).bind fun e=>(SS d e).bind fun f=>bif (!f)then some (.inr (false))else some (.inl (g,h,w64 (i+1)))else some (.inr (true))) (a,b,0)
def ahQ:Fsp:=⟨101,[slF .cell,slF .cell],[shF .bool],true,false,fun x=>Zm x.1 x.2⟩
def Aj(a:ak)(b:ak):Option (Bool):=(Zm a.cells b.cells).bind fun c=>bif (!c)then some (false)else some (true)
def Zi:Fsp:=⟨48,[shT .notebook,shT .notebook],[shF .bool],true,false,fun x=>Aj x.1 x.2⟩
def Zf(a:aJ)(b:aJ):Option (Bool):=bif (a.cell != b.cell)then some (false)else bif (a.version != b.version)then some (false)else (Ox a.reads b.reads).bind fun c=>bif (!c)then some (false)else some (true)
def aks:Fsp:=⟨102,[shT .tape,shT .tape],[shF .bool],true,false,fun x=>Zf x.1 x.2⟩
def Ze(a:List aJ)(b:List aJ):Option (Bool):=bif ((a.length:Int) != (b.length:Int))then some (false)else au (fun(⟨g,h,i⟩:(List aJ)×(List aJ)×Int)=>bif (decide (i<(g.length:Int)))then (idx g i).bind fun d=>(idx h i).bind fun e=>(Zf d e).bind fun f=>bif (!f)then some (.inr (false))else some (.inl (g,h,w64 (i+1)))else some (.inr (true))) (a,b,0)
def ahL:Fsp:=⟨49,[slF .tape,slF .tape],[shF .bool],true,false,fun x=>Ze x.1 x.2⟩
def jJ(a:aN)(b:aN):Option (Bool):=(Aj a.notebook b.notebook).bind fun c=>bif (!c)then some (false)else (Ze a.tapes b.tapes).bind fun d=>bif (!d)then some (false)else (V9 a.renames b.renames).bind fun e=>bif (!e)then some (false)else some (true)
def Zl:Fsp:=⟨13,[shT .document,shT .document],[shF .bool],true,false,fun x=>jJ x.1 x.2⟩
def xQ(a:List Int)(b:Int):Option (List Int×Int):=au (fun(⟨e,f,g⟩:List Int×Int×Int)=>bif (decide (f<(e.length:Int)))then (idx e f).bind fun _=>(e[f.toNat]?).bind fun d=>(some (e.set f.toNat g)).bind fun c=>some (.inl (c,w64 (f+1),w64 (g+1)))else some (.inr (e,g))) (a,0,b)
def adZ:Msp:={ fid:=55,sh:=⟨false,.list (.base .int)⟩,fn:=fun x n=>xQ x n }
def dS(a:Int):Option (Str):=bif (decide (a<=0))then some ([109,48])else au (fun (b:Int×Str)=>bif (decide (b.1>0))then (gd ((bytesOf [w8 (w64 (48+(b.1.tmod 10)))]).length+b.2.length)).bind fun _=>some (.inl (w64 (b.1.tdiv 10),(bytesOf [w8 (w64 (48+(b.1.tmod 10)))])++b.2))else ((gd ([109].length+b.2.length)).bind fun _=>some ([109]++b.2)).bind fun r=>some (.inr r)) (a,[])
def adX:Fsp:=⟨57,[shF .int],[shF .str],true,false,fun x=>dS x⟩
def oq(a:List Str)(b:Int):Option (List Str×Int):=au (fun(⟨f,g,h⟩:List Str×Int×Int)=>bif (decide (g<(f.length:Int)))then (dS h).bind fun c=>(idx f g).bind fun _=>(f[g.toNat]?).bind fun e=>(some (f.set g.toNat c)).bind fun d=>some (.inl (d,w64 (g+1),w64 (h+1)))else some (.inr (f,h))) (a,0,b)
def Ux:Msp:={ fid:=107,sh:=⟨false,.list (.base .str)⟩,fn:=fun x n=>oq x n }
def vS(a:List bQ)(b:Int):Option (List bQ×Int):=au (fun(⟨g,h,i⟩:List bQ×Int×Int)=>bif (decide (h<(g.length:Int)))then (idx g h).bind fun _=>(g[h.toNat]?).bind fun d=>(some (g.set h.toNat (bQ.mk i d.row))).bind fun c=>(idx c h).bind fun _=>(c[h.toNat]?).bind fun e=>(some (c.set h.toNat (bQ.mk e.cell (w64 (i+1))))).bind fun f=>some (.inl (f,w64 (h+1),w64 ((w64 (i+1))+1)))else some (.inr (g,i))) (a,0,b)
def Uy:Msp:={ fid:=152,sh:=⟨false,.list (.base .origin)⟩,fn:=fun x n=>vS x n }
def xP(a:List bD)(b:Int):Option (List bD×Int):=au (fun(⟨k,l,m⟩:List bD×Int×Int)=>bif (decide (l<(k.length:Int)))then (idx k l).bind fun _=>(k[l.toNat]?).bind fun i=>(k[l.toNat]?).bind fun d=>(xQ d.cells m).bind fun e=>(some (k.set l.toNat (bD.mk e.1 d.orig))).bind fun c=>(idx c l).bind fun _=>(c[l.toNat]?).bind fun j=>(c[l.toNat]?).bind fun f=>(vS f.orig e.2).bind fun g=>(some (c.set l.toNat (bD.mk f.cells g.1))).bind fun h=>some (.inl (h,w64 (l+1),g.2))else some (.inr (k,m))) (a,0,b)
def adY:Msp:={ fid:=108,sh:=⟨false,.list (.base .row)⟩,fn:=fun x n=>xP x n }
def Cm(rmarkValueS:(List aF)->Int->Option (List aF×Int))(a:List aF)(b:Int):Option (List aF×Int):=au (fun(⟨z,A,B⟩:List aF×Int×Int)=>bif (decide (A<(z.length:Int)))then (idx z A).bind fun _=>(z[A.toNat]?).bind fun h=>(some (z.set A.toNat (aF.mk B h.n h.step h.text h.list h.columns h.rows))).bind fun q=>(idx q A).bind fun _=>(q[A.toNat]?).bind fun i=>(some (q.set A.toNat (aF.mk i.kind (w64 (B+1)) i.step i.text i.list i.columns i.rows))).bind fun r=>(idx r A).bind fun _=>(r[A.toNat]?).bind fun j=>(some (r.set A.toNat (aF.mk j.kind j.n (w64 ((w64 (B+1))+1)) j.text j.list j.columns j.rows))).bind fun s=>(dS (w64 ((w64 ((w64 (B+1))+1))+1))).bind fun u=>(idx s A).bind fun _=>(s[A.toNat]?).bind fun k=>(some (s.set A.toNat (aF.mk k.kind k.n k.step u k.list k.columns k.rows))).bind fun p=>(idx p A).bind fun _=>(p[A.toNat]?).bind fun v=>(p[A.toNat]?).bind fun c=>(rmarkValueS c.list (w64 ((w64 ((w64 ((w64 (B+1))+1))+1))+1))).bind fun l=>(some (p.set A.toNat (aF.mk c.kind c.n c.step c.text l.1 c.columns c.rows))).bind fun f=>(idx f A).bind fun _=>(f[A.toNat]?).bind fun w=>(f[A.toNat]?).bind fun d=>(oq d.columns l.2).bind fun m=>(some (f.set A.toNat (aF.mk d.kind d.n d.step d.text d.list m.1 d.rows))).bind fun g=>(idx g A).bind fun _=>(g[A.toNat]?).bind fun y=>(g[A.toNat]?).bind fun e=>(xP e.rows m.2).bind fun o=>(some (g.set A.toNat (aF.mk e.kind e.n e.step e.text e.list e.columns o.1))).bind fun t=>some (.inl (t,w64 (A+1),o.2))else some (.inr (z,B))) (a,0,b)
def kE:Nat->(List aF)->Int->Option (List aF×Int)
 | 0=>fun _ _=>none
 | n+1=>Cm (kE n)
def zL(a:List aF)(b:Int):Option (List aF×Int):=kE (siz a+1) a b
def Fp(k:Nat):Msp:={ fid:=106,sh:=⟨false,.list (.base .val)⟩,fn:=fun x n=>kE k x n }
def Yq:Msp:={ fid:=106,sh:=⟨false,.list (.base .val)⟩,fn:=fun x n=>zL x n }
def tq(a:List aO)(b:Int):Option (List aO×Int):=au (fun(⟨I,J,K⟩:List aO×Int×Int)=>bif (decide (J<(I.length:Int)))then (idx I J).bind fun _=>(I[J.toNat]?).bind fun t=>(some (I.set J.toNat (aO.mk K t.n t.time t.text (dD t.result)))).bind fun y=>(idx y J).bind fun _=>(y[J.toNat]?).bind fun u=>(some (y.set J.toNat (aO.mk u.kind (w64 (K+1)) u.time u.text (dD u.result)))).bind fun z=>(idx z J).bind fun _=>(z[J.toNat]?).bind fun v=>(some (z.set J.toNat (aO.mk v.kind v.n (w64 ((w64 (K+1))+1)) v.text (dD v.result)))).bind fun A=>(dS (w64 ((w64 ((w64 (K+1))+1))+1))).bind fun E=>(idx A J).bind fun _=>(A[J.toNat]?).bind fun w=>(some (A.set J.toNat (aO.mk w.kind w.n w.time E (dD w.result)))).bind fun B=>(idx B J).bind fun _=>(B[J.toNat]?).bind fun f=>(some (B.set J.toNat (aO.mk f.kind f.n f.time f.text (aF.mk (w64 ((w64 ((w64 ((w64 (K+1))+1))+1))+1)) f.result.n f.result.step f.result.text f.result.list f.result.columns f.result.rows)))).bind fun m=>(idx m J).bind fun _=>(m[J.toNat]?).bind fun g=>(some (m.set J.toNat (aO.mk g.kind g.n g.time g.text (aF.mk g.result.kind (w64 ((w64 ((w64 ((w64 ((w64 (K+1))+1))+1))+1))+1)) g.result.step g.result.text g.result.list g.result.columns g.result.rows)))).bind fun o=>(idx o J).bind fun _=>(o[J.toNat]?).bind fun h=>(some (o.set J.toNat (aO.mk h.kind h.n h.time h.text (aF.mk h.result.kind h.result.n (w64 ((w64 ((w64 ((w64 ((w64 ((w64 (K+1))+1))+1))+1))+1))+1)) h.result.text h.result.list h.result.columns h.result.rows)))).bind fun p=>(dS (w64 ((w64 ((w64 ((w64 ((w64 ((w64 ((w64 (K+1))+1))+1))+1))+1))+1))+1))).bind fun C=>(idx p J).bind fun _=>(p[J.toNat]?).bind fun i=>(some (p.set J.toNat (aO.mk i.kind i.n i.time i.text (aF.mk i.result.kind i.result.n i.result.step C i.result.list i.result.columns i.result.rows)))).bind fun j=>(idx j J).bind fun _=>(j[J.toNat]?).bind fun F=>(j[J.toNat]?).bind fun c=>(zL c.result.list (w64 ((w64 ((w64 ((w64 ((w64 ((w64 ((w64 ((w64 (K+1))+1))+1))+1))+1))+1))+1))+1))).bind fun q=>(some (j.set J.toNat (aO.mk c.kind c.n c.time c.text (aF.mk c.result.kind c.result.n c.result.step c.result.text q.1 c.result.columns c.result.rows)))).bind fun k=>(idx k J).bind fun _=>(k[J.toNat]?).bind fun G=>(k[J.toNat]?).bind fun d=>(oq d.result.columns q.2).bind fun r=>(some (k.set J.toNat (aO.mk d.kind d.n d.time d.text (aF.mk d.result.kind d.result.n d.result.step d.result.text d.result.list r.1 d.result.rows)))).bind fun l=>(idx l J).bind fun _=>(l[J.toNat]?).bind fun H=>(l[J.toNat]?).bind fun e=>(xP e.result.rows r.2).bind fun s=>(some (l.set J.toNat (aO.mk e.kind e.n e.time e.text (aF.mk e.result.kind e.result.n e.result.step e.result.text e.result.list e.result.columns s.1)))).bind fun D=>some (.inl (D,w64 (J+1),s.2))else some (.inr (I,K))) (a,0,b)
def aaZ:Msp:={ fid:=56,sh:=⟨false,.list (.base .read)⟩,fn:=fun x n=>tq x n }
def Em(a:List GOp)(b:Int):Option (List GOp×Int):=au (fun(⟨U,V,W⟩:List GOp×Int×Int)=>bif (decide (V<(U.length:Int)))then (idx U V).bind fun _=>(U[V.toNat]?).bind fun s=>(some (U.set V.toNat (GOp.mk W s.by_ s.kind s.seen s.edit s.src s.dst s.cell s.version s.reads))).bind fun L=>(idx L V).bind fun _=>(L[V.toNat]?).bind fun t=>(some (L.set V.toNat (GOp.mk t.time (w64 (W+1)) t.kind t.seen t.edit t.src t.dst t.cell t.version t.reads))).bind fun M=>(idx M V).bind fun _=>(M[V.toNat]?).bind fun u=>(some (M.set V.toNat (GOp.mk u.time u.by_ (w64 ((w64 (W+1))+1)) u.seen u.edit u.src u.dst u.cell u.version u.reads))).bind fun K=>(idx K V).bind fun _=>(K[V.toNat]?).bind fun T=>(K[V.toNat]?).bind fun r=>(xQ r.seen (w64 ((w64 ((w64 (W+1))+1))+1))).bind fun q=>(some (K.set V.toNat (GOp.mk r.time r.by_ r.kind q.1 r.edit r.src r.dst r.cell r.version r.reads))).bind fun w=>(idx w V).bind fun _=>(w[V.toNat]?).bind fun i=>(some (w.set V.toNat (GOp.mk i.time i.by_ i.kind i.seen (dP.mk q.2 i.edit.pos i.edit.cell) i.src i.dst i.cell i.version i.reads))).bind fun y=>(idx y V).bind fun _=>(y[V.toNat]?).bind fun j=>(some (y.set V.toNat (GOp.mk j.time j.by_ j.kind j.seen (dP.mk j.edit.kind (w64 (q.2+1)) j.edit.cell) j.src j.dst j.cell j.version j.reads))).bind fun z=>(idx z V).bind fun _=>(z[V.toNat]?).bind fun c=>(some (z.set V.toNat (GOp.mk c.time c.by_ c.kind c.seen (dP.mk c.edit.kind c.edit.pos (ah.mk (w64 ((w64 (q.2+1))+1)) c.edit.cell.version c.edit.cell.kind c.edit.cell.name c.edit.cell.code c.edit.cell.n)) c.src c.dst c.cell c.version c.reads))).bind fun A=>(idx A V).bind fun _=>(A[V.toNat]?).bind fun d=>(some (A.set V.toNat (GOp.mk d.time d.by_ d.kind d.seen (dP.mk d.edit.kind d.edit.pos (ah.mk d.edit.cell.id (w64 ((w64 ((w64 (q.2+1))+1))+1)) d.edit.cell.kind d.edit.cell.name d.edit.cell.code d.edit.cell.n)) d.src d.dst d.cell d.version d.reads))).bind fun B=>(idx B V).bind fun _=>(B[V.toNat]?).bind fun e=>(some (B.set V.toNat (GOp.mk e.time e.by_ e.kind e.seen (dP.mk e.edit.kind e.edit.pos (ah.mk e.edit.cell.id e.edit.cell.version (w64 ((w64 ((w64 ((w64 (q.2+1))+1))+1))+1)) e.edit.cell.name e.edit.cell.code e.edit.cell.n)) e.src e.dst e.cell e.version e.reads))).bind fun C=>(dS (w64 ((w64 ((w64 ((w64 ((w64 (q.2+1))+1))+1))+1))+1))).bind fun N=>(idx C V).bind fun _=>(C[V.toNat]?).bind fun f=>(some (C.set V.toNat (GOp.mk f.time f.by_ f.kind f.seen (dP.mk f.edit.kind f.edit.pos (ah.mk f.edit.cell.id f.edit.cell.version f.edit.cell.kind N f.edit.cell.code f.edit.cell.n)) f.src f.dst f.cell f.version f.reads))).bind fun D=>(dS (w64 ((w64 ((w64 ((w64 ((w64 ((w64 (q.2+1))+1))+1))+1))+1))+1))).bind fun O=>(idx D V).bind fun _=>(D[V.toNat]?).bind fun g=>(some (D.set V.toNat (GOp.mk g.time g.by_ g.kind g.seen (dP.mk g.edit.kind g.edit.pos (ah.mk g.edit.cell.id g.edit.cell.version g.edit.cell.kind g.edit.cell.name O g.edit.cell.n)) g.src g.dst g.cell g.version g.reads))).bind fun E=>(idx E V).bind fun _=>(E[V.toNat]?).bind fun h=>(some (E.set V.toNat (GOp.mk h.time h.by_ h.kind h.seen (dP.mk h.edit.kind h.edit.pos (ah.mk h.edit.cell.id h.edit.cell.version h.edit.cell.kind h.edit.cell.name h.edit.cell.code (w64 ((w64 ((w64 ((w64 ((w64 ((w64 ((w64 (q.2+1))+1))+1))+1))+1))+1))+1)))) h.src h.dst h.cell h.version h.reads))).bind fun F=>(dS (w64 ((w64 ((w64 ((w64 ((w64 ((w64 ((w64 ((w64 (q.2+1))+1))+1))+1))+1))+1))+1))+1))).bind fun P=>(idx F V).bind fun _=>(F[V.toNat]?).bind fun l=>(some (F.set V.toNat (GOp.mk l.time l.by_ l.kind l.seen l.edit P l.dst l.cell l.version l.reads))).bind fun G=>(dS (w64 ((w64 ((w64 ((w64 ((w64 ((w64 ((w64 ((w64 ((w64 (q.2+1))+1))+1))+1))+1))+1))+1))+1))+1))).bind fun Q=>
   (idx G V).bind fun _=>
   (G[V.toNat]?).bind fun m=>
   (some (G.set V.toNat (GOp.mk m.time m.by_ m.kind m.seen m.edit m.src Q m.cell m.version m.reads))).bind fun H=>
   (idx H V).bind fun _=>
   (H[V.toNat]?).bind fun o=>
   (some (H.set V.toNat (GOp.mk o.time o.by_ o.kind o.seen o.edit o.src o.dst (w64 ((w64 ((w64 ((w64 ((w64 ((w64 ((w64 ((w64 ((w64 ((w64 (q.2+1))+1))+1))+1))+1))+1))+1))+1))+1))+1)) o.version o.reads))).bind fun I=>
   (idx I V).bind fun _=>
   (I[V.toNat]?).bind fun p=>
   (some (I.set V.toNat (GOp.mk p.time p.by_ p.kind p.seen p.edit p.src p.dst p.cell (w64 ((w64 ((w64 ((w64 ((w64 ((w64 ((w64 ((w64 ((w64 ((w64 ((w64 (q.2+1))+1))+1))+1))+1))+1))+1))+1))+1))+1))+1)) p.reads))).bind fun v=>
   (idx v V).bind fun _=>
   (v[V.toNat]?).bind fun S=>
   (v[V.toNat]?).bind fun k=>
   (tq k.reads (w64 ((w64 ((w64 ((w64 ((w64 ((w64 ((w64 ((w64 ((w64 ((w64 ((w64 ((w64 (q.2+1))+1))+1))+1))+1))+1))+1))+1))+1))+1))+1))+1))).bind fun J=>
   (some (v.set V.toNat (GOp.mk k.time k.by_ k.kind k.seen k.edit k.src k.dst k.cell k.version J.1))).bind fun R=>
   some (.inl (R,w64 (V+1),J.2))
  else
   some (.inr (U,W))
 ) (a,0,b)
def ahb:Msp:={ fid:=18,sh:=⟨false,.list (.base .op)⟩,fn:=fun x n=>Em x n }
def En(a:List ah)(b:Int):Option (List ah×Int):=au (fun(⟨r,s,t⟩:List ah×Int×Int)=>bif (decide (s<(r.length:Int)))then (idx r s).bind fun _=>(r[s.toNat]?).bind fun f=>(some (r.set s.toNat (ah.mk t f.version f.kind f.name f.code f.n))).bind fun j=>(idx j s).bind fun _=>(j[s.toNat]?).bind fun g=>(some (j.set s.toNat (ah.mk g.id (w64 (t+1)) g.kind g.name g.code g.n))).bind fun k=>(idx k s).bind fun _=>(k[s.toNat]?).bind fun h=>(some (k.set s.toNat (ah.mk h.id h.version (w64 ((w64 (t+1))+1)) h.name h.code h.n))).bind fun l=>(dS (w64 ((w64 ((w64 (t+1))+1))+1))).bind fun q=>(idx l s).bind fun _=>(l[s.toNat]?).bind fun i=>(some (l.set s.toNat (ah.mk i.id i.version i.kind q i.code i.n))).bind fun m=>(dS (w64 ((w64 ((w64 ((w64 (t+1))+1))+1))+1))).bind fun o=>(idx m s).bind fun _=>(m[s.toNat]?).bind fun c=>(some (m.set s.toNat (ah.mk c.id c.version c.kind c.name o c.n))).bind fun e=>(idx e s).bind fun _=>(e[s.toNat]?).bind fun d=>(some (e.set s.toNat (ah.mk d.id d.version d.kind d.name d.code (w64 ((w64 ((w64 ((w64 ((w64 (t+1))+1))+1))+1))+1))))).bind fun p=>some (.inl (p,w64 (s+1),w64 ((w64 ((w64 ((w64 ((w64 ((w64 (t+1))+1))+1))+1))+1))+1)))else some (.inr (r,t))) (a,0,b)
def aa0:Msp:={ fid:=105,sh:=⟨false,.list (.base .cell)⟩,fn:=fun x n=>En x n }
def rX(a:ak)(b:Int):Option (ak×Int):=(En a.cells b).bind fun c=>some (ak.mk c.1,c.2)
def QS:Msp:={ fid:=53,sh:=⟨true,.base .notebook⟩,fn:=fun x n=>rX x n }
def Ej(a:List aJ)(b:Int):Option (List aJ×Int):=au (fun(⟨k,l,m⟩:List aJ×Int×Int)=>bif (decide (l<(k.length:Int)))then (idx k l).bind fun _=>(k[l.toNat]?).bind fun f=>(some (k.set l.toNat (aJ.mk m f.version f.reads))).bind fun d=>(idx d l).bind fun _=>(d[l.toNat]?).bind fun g=>(some (d.set l.toNat (aJ.mk g.cell (w64 (m+1)) g.reads))).bind fun c=>(idx c l).bind fun _=>(c[l.toNat]?).bind fun j=>(c[l.toNat]?).bind fun e=>(tq e.reads (w64 ((w64 (m+1))+1))).bind fun h=>(some (c.set l.toNat (aJ.mk e.cell e.version h.1))).bind fun i=>some (.inl (i,w64 (l+1),h.2))else some (.inr (k,m))) (a,0,b)
def aaY:Msp:={ fid:=54,sh:=⟨false,.list (.base .tape)⟩,fn:=fun x n=>Ej x n }
def lV(a:aN)(b:Int):Option (aN×Int):=(rX a.notebook b).bind fun c=>(Ej a.tapes c.2).bind fun d=>(Em a.renames d.2).bind fun e=>some (aN.mk c.1 d.1 e.1,e.2)
def QT:Msp:={ fid:=16,sh:=⟨true,.base .document⟩,fn:=fun x n=>lV x n }
def ajJ(a:GOp)(b:Int):Option (GOp×Int):=(xQ a.seen b).bind fun c=>(tq a.reads c.2).bind fun d=>some (GOp.mk a.time a.by_ a.kind c.1 a.edit a.src a.dst a.cell a.version d.1,d.2)
def ajI:Msp:={ fid:=17,sh:=⟨true,.base .op⟩,fn:=fun x n=>ajJ x n }
def EK(a:List ah)(b:Int):Option (Int):=au (fun(⟨l,m,o⟩:(List ah)×Int×Int)=>bif (decide (o<(l.length:Int)))then (idx l o).bind fun d=>bif (d.id != m)then some (.inr ((-1)))else (idx l o).bind fun e=>bif (e.version != (w64 (m+1)))then some (.inr ((-1)))else (idx l o).bind fun f=>bif (f.kind != (w64 ((w64 (m+1))+1)))then some (.inr ((-1)))else (idx l o).bind fun g=>(dS (w64 ((w64 ((w64 (m+1))+1))+1))).bind fun h=>bif (!(g.name==h))then some (.inr ((-1)))else (idx l o).bind fun i=>(dS (w64 ((w64 ((w64 ((w64 (m+1))+1))+1))+1))).bind fun j=>bif (!(i.code==j))then some (.inr ((-1)))else (idx l o).bind fun k=>bif (k.n != (w64 ((w64 ((w64 ((w64 ((w64 (m+1))+1))+1))+1))+1)))then some (.inr ((-1)))else some (.inl (l,w64 ((w64 ((w64 ((w64 ((w64 ((w64 (m+1))+1))+1))+1))+1))+1),w64 (o+1)))else some (.inr (m))) (a,b,0)
def abL:Fsp:=⟨109,[slF .cell,shF .int],[shF .int],true,false,fun x=>EK x.1 x.2⟩
def sH(a:ak)(b:Int):Option (Int):=(EK a.cells b).bind fun c=>bif (decide (c<0))then some ((-1))else some (c)
def Sv:Fsp:=⟨58,[shT .notebook,shF .int],[shF .int],true,false,fun x=>sH x.1 x.2⟩
def oG(a:List Str)(b:Int):Option (Int):=au (fun(⟨f,g,h⟩:(List Str)×Int×Int)=>bif (decide (h<(f.length:Int)))then (idx f h).bind fun d=>(dS g).bind fun e=>bif (!(d==e))then some (.inr ((-1)))else some (.inl (f,w64 (g+1),w64 (h+1)))else some (.inr (g))) (a,b,0)
def U4:Fsp:=⟨154,[slF .str,shF .int],[shF .int],true,false,fun x=>oG x.1 x.2⟩
def Dt(a:List Int)(b:Int):Option (Int):=au (fun(⟨e,f,g⟩:(List Int)×Int×Int)=>bif (decide (g<(e.length:Int)))then (idx e g).bind fun d=>bif (d != f)then some (.inr ((-1)))else some (.inl (e,w64 (f+1),w64 (g+1)))else some (.inr (f))) (a,b,0)
def aeA:Fsp:=⟨111,[slF .int,shF .int],[shF .int],true,false,fun x=>Dt x.1 x.2⟩
def vY(a:List bQ)(b:Int):Option (Int):=au (fun(⟨f,g,h⟩:(List bQ)×Int×Int)=>bif (decide (h<(f.length:Int)))then (idx f h).bind fun d=>bif (d.cell != g)then some (.inr ((-1)))else (idx f h).bind fun e=>bif (e.row != (w64 (g+1)))then some (.inr ((-1)))else some (.inl (f,w64 ((w64 (g+1))+1),w64 (h+1)))else some (.inr (g))) (a,b,0)
def U5:Fsp:=⟨197,[slF .origin,shF .int],[shF .int],true,false,fun x=>vY x.1 x.2⟩
def yD(a:List bD)(b:Int):Option (Int):=au (fun(⟨h,i,j⟩:(List bD)×Int×Int)=>bif (decide (j<(h.length:Int)))then (idx h j).bind fun f=>(Dt f.cells i).bind fun d=>bif (decide (d<0))then some (.inr ((-1)))else (idx h j).bind fun g=>(vY g.orig d).bind fun e=>bif (decide (e<0))then some (.inr ((-1)))else some (.inl (h,e,w64 (j+1)))else some (.inr (i))) (a,b,0)
def aez:Fsp:=⟨155,[slF .row,shF .int],[shF .int],true,false,fun x=>yD x.1 x.2⟩
def Dq(rheldValueS:(List aF)->Int->Option (Int))(a:List aF)(b:Int):Option (Int):=au (fun(⟨p,q,r⟩:(List aF)×Int×Int)=>bif (decide (r<(p.length:Int)))then (idx p r).bind fun h=>bif (h.kind != q)then some (.inr ((-1)))else (idx p r).bind fun i=>bif (i.n != (w64 (q+1)))then some (.inr ((-1)))else (idx p r).bind fun j=>bif (j.step != (w64 ((w64 (q+1))+1)))then some (.inr ((-1)))else (idx p r).bind fun k=>(dS (w64 ((w64 ((w64 (q+1))+1))+1))).bind fun l=>bif (!(k.text==l))then some (.inr ((-1)))else (idx p r).bind fun m=>(rheldValueS m.list (w64 ((w64 ((w64 ((w64 (q+1))+1))+1))+1))).bind fun g=>bif (decide (g<0))then some (.inr ((-1)))else (idx p r).bind fun o=>(oG o.columns g).bind fun d=>bif (decide (d<0))then some (.inr ((-1)))else (idx p r).bind fun f=>(yD f.rows d).bind fun e=>bif (decide (e<0))then some (.inr ((-1)))else some (.inl (p,e,w64 (r+1)))else some (.inr (q))) (a,b,0)
def lK:Nat->((List aF)->Int->Option (Int))
 | 0=>fun _ _=>none
 | n+1=>Dq (lK n)
def G7(a:List aF)(b:Int):Option (Int):=(lK (siz a+1)) a b
def Y8:Fsp:=⟨153,[slF .val,shF .int],[shF .int],true,false,fun x=>G7 x.1 x.2⟩
def FN(n:Nat):Fsp:=⟨153,[slF .val,shF .int],[shF .int],true,false,fun x=>(lK n) x.1 x.2⟩
def yE(a:List aO)(b:Int):Option (Int):=au (fun(⟨u,v,w⟩:(List aO)×Int×Int)=>bif (decide (w<(u.length:Int)))then (idx u w).bind fun l=>bif (l.kind != v)then some (.inr ((-1)))else (idx u w).bind fun m=>bif (m.n != (w64 (v+1)))then some (.inr ((-1)))else (idx u w).bind fun o=>bif (o.time != (w64 ((w64 (v+1))+1)))then some (.inr ((-1)))else (idx u w).bind fun p=>(dS (w64 ((w64 ((w64 (v+1))+1))+1))).bind fun q=>bif (!(p.text==q))then some (.inr ((-1)))else (idx u w).bind fun r=>bif (r.result.kind != (w64 ((w64 ((w64 ((w64 (v+1))+1))+1))+1)))then some (.inr ((-1)))else (idx u w).bind fun s=>bif (s.result.n != (w64 ((w64 ((w64 ((w64 ((w64 (v+1))+1))+1))+1))+1)))then some (.inr ((-1)))else (idx u w).bind fun t=>bif (t.result.step != (w64 ((w64 ((w64 ((w64 ((w64 ((w64 (v+1))+1))+1))+1))+1))+1)))then some (.inr ((-1)))else (idx u w).bind fun g=>(dS (w64 ((w64 ((w64 ((w64 ((w64 ((w64 ((w64 (v+1))+1))+1))+1))+1))+1))+1))).bind fun h=>bif (!(g.result.text==h))then some (.inr ((-1)))else (idx u w).bind fun i=>(G7 i.result.list (w64 ((w64 ((w64 ((w64 ((w64 ((w64 ((w64 ((w64 (v+1))+1))+1))+1))+1))+1))+1))+1))).bind fun d=>bif (decide (d<0))then some (.inr ((-1)))else (idx u w).bind fun j=>(oG j.result.columns d).bind fun e=>bif (decide (e<0))then some (.inr ((-1)))else (idx u w).bind fun k=>(yD k.result.rows e).bind fun f=>bif (decide (f<0))then some (.inr ((-1)))else some (.inl (u,f,w64 (w+1)))else some (.inr (v))) (a,b,0)
def abK:Fsp:=⟨110,[slF .read,shF .int],[shF .int],true,false,fun x=>yE x.1 x.2⟩
def EJ(a:List aJ)(b:Int):Option (Int):=au (fun(⟨h,i,j⟩:(List aJ)×Int×Int)=>bif (decide (j<(h.length:Int)))then (idx h j).bind fun e=>bif (e.cell != i)then some (.inr ((-1)))else (idx h j).bind fun f=>bif (f.version != (w64 (i+1)))then some (.inr ((-1)))else (idx h j).bind fun g=>(yE g.reads (w64 ((w64 (i+1))+1))).bind fun d=>bif (decide (d<0))then some (.inr ((-1)))else some (.inl (h,d,w64 (j+1)))else some (.inr (i))) (a,b,0)
def abJ:Fsp:=⟨59,[slF .tape,shF .int],[shF .int],true,false,fun x=>EJ x.1 x.2⟩
def Ot(a:List GOp)(b:Int):Option (Int):=au (fun(⟨B,C,D⟩:(List GOp)×Int×Int)=>bif (decide (D<(B.length:Int)))then (idx B D).bind fun u=>bif (u.time != C)then some (.inr ((-1)))else (idx B D).bind fun v=>bif (v.by_ != (w64 (C+1)))then some (.inr ((-1)))else (idx B D).bind fun w=>bif (w.kind != (w64 ((w64 (C+1))+1)))then some (.inr ((-1)))else (idx B D).bind fun x=>(Dt x.seen (w64 ((w64 ((w64 (C+1))+1))+1))).bind fun d=>bif (decide (d<0))then some (.inr ((-1)))else (idx B D).bind fun y=>bif (y.edit.kind != d)then some (.inr ((-1)))else (idx B D).bind fun z=>bif (z.edit.pos != (w64 (d+1)))then some (.inr ((-1)))else (idx B D).bind fun A=>bif (A.edit.cell.id != (w64 ((w64 (d+1))+1)))then some (.inr ((-1)))else (idx B D).bind fun f=>bif (f.edit.cell.version != (w64 ((w64 ((w64 (d+1))+1))+1)))then some (.inr ((-1)))else (idx B D).bind fun g=>bif (g.edit.cell.kind != (w64 ((w64 ((w64 ((w64 (d+1))+1))+1))+1)))then some (.inr ((-1)))else (idx B D).bind fun h=>(dS (w64 ((w64 ((w64 ((w64 ((w64 (d+1))+1))+1))+1))+1))).bind fun i=>bif (!(h.edit.cell.name==i))then some (.inr ((-1)))else (idx B D).bind fun j=>(dS (w64 ((w64 ((w64 ((w64 ((w64 ((w64 (d+1))+1))+1))+1))+1))+1))).bind fun k=>bif (!(j.edit.cell.code==k))then some (.inr ((-1)))else (idx B D).bind fun l=>bif (l.edit.cell.n != (w64 ((w64 ((w64 ((w64 ((w64 ((w64 ((w64 (d+1))+1))+1))+1))+1))+1))+1)))then some (.inr ((-1)))else (idx B D).bind fun m=>(dS (w64 ((w64 ((w64 ((w64 ((w64 ((w64 ((w64 ((w64 (d+1))+1))+1))+1))+1))+1))+1))+1))).bind fun o=>bif (!(m.src==o))then some (.inr ((-1)))else (idx B D).bind fun p=>(dS (w64 ((w64 ((w64 ((w64 ((w64 ((w64 ((w64 ((w64 ((w64 (d+1))+1))+1))+1))+1))+1))+1))+1))+1))).bind fun q=>bif (!(p.dst==q))then some (.inr ((-1)))else (idx B D).bind fun r=>bif (r.cell != (w64 ((w64 ((w64 ((w64 ((w64 ((w64 ((w64 ((w64 ((w64 ((w64 (d+1))+1))+1))+1))+1))+1))+1))+1))+1))+1)))then some (.inr ((-1)))else (idx B D).bind fun s=>bif (s.version != (w64 ((w64 ((w64 ((w64 ((w64 ((w64 ((w64 ((w64 ((w64 ((w64 ((w64 (d+1))+1))+1))+1))+1))+1))+1))+1))+1))+1))+1)))then some (.inr ((-1)))else (idx B D).bind fun t=>(yE t.reads (w64 ((w64 ((w64 ((w64 ((w64 ((w64 ((w64 ((w64 ((w64 ((w64 ((w64 ((w64 (d+1))+1))+1))+1))+1))+1))+1))+1))+1))+1))+1))+1))).bind fun e=>bif (decide (e<0))then some (.inr ((-1)))else some (.inl (B,e,w64 (D+1)))else some (.inr (C))) (a,b,0)
def ahz:Fsp:=⟨60,[slF .op,shF .int],[shF .int],true,false,fun x=>Ot x.1 x.2⟩
def kP(a:aN)(b:Int):Option (Int):=(sH a.notebook b).bind fun c=>bif (decide (c<0))then some ((-1))else (EJ a.tapes c).bind fun d=>bif (decide (d<0))then some ((-1))else (Ot a.renames d).bind fun e=>bif (decide (e<0))then some ((-1))else some (e)
def Sz:Fsp:=⟨19,[shT .document,shF .int],[shF .int],true,false,fun x=>kP x.1 x.2⟩
def FnExactReplayOp(a:aN)(b:GOp)(c:List GOp):Option (Bool):=(Pg a 1048576).bind fun B=>bif (decide (B<0))then some (true)else (Xp b B).bind fun C=>bif (decide (C<0))then some (true)else (O9 c C).bind fun D=>bif (decide (D<0))then some (true)else (tX a).bind fun E=>(ZN b).bind fun F=>(Bo c).bind fun G=>(jO E F G).bind fun i=>(tX a).bind fun j=>(ZN b).bind fun k=>(Bo c).bind fun e=>(ou j k e).bind fun f=>(jJ f i).bind fun l=>bif (!l)then some (false)else (tX a).bind fun m=>(jJ j m).bind fun n=>bif (!n)then some (false)else (ZN b).bind fun o=>(akx k o).bind fun p=>bif (!p)then some (false)else (Bo c).bind fun q=>(V9 e q).bind fun r=>bif (!r)then some (false)else (lV j 1).bind fun s=>(ajJ k s.2).bind fun t=>(Em e t.2).bind fun u=>bif (decide (u.2<0))then some (false)else (jJ f i).bind fun v=>bif (!v)then some (false)else (lV f 1).bind fun d=>(kP d.1 1).bind fun g=>bif (decide (g<0))then some (false)else bif (g != d.2)then some (false)else (tX a).bind fun w=>(ZN b).bind fun x=>(Bo c).bind fun y=>(ou w x y).bind fun z=>(jJ z i).bind fun A=>bif (!A)then some (false)else (kP d.1 1).bind fun h=>bif (decide (h<0))then some (false)else bif (h != d.2)then some (false)else some (true)
def Jy:Fsp:=⟨3,[shT .document,shT .op,slF .op],[shF .bool],true,false,fun x=>FnExactReplayOp x.1 x.2.1 x.2.2⟩
def PG(a:List Int):Option (Bool):=au (fun (b:(List Int)×Int)=>bif (decide (b.2<(b.1.length:Int)))then (idx b.1 b.2).bind fun c=>(lZ c 0 60).bind fun d=>bif (!d)then some (.inr (false))else some (.inl (b.1,w64 (b.2+1)))else some (.inr (((b.1.length:Int)==3)))) (a,0)
def ade:Fsp:=⟨156,[slF .int],[shF .bool],true,false,fun x=>PG x⟩
def pK(a:GOp):Option (Bool):=(lZ a.time 1 300).bind fun b=>bif (!b)then some (false)else (lZ a.by_ 0 2).bind fun c=>bif (!c)then some (false)else (PG a.seen).bind fun d=>bif (!d)then some (false)else (lZ a.kind 1 3).bind fun e=>bif (!e)then some (false)else bif (a.src==[])then bif (a.cell==0)then bif (a.version==0)then bif (a.kind==1)then bif (a.dst==[])then some (((a.reads.length:Int)==0))else some (false)else bif (a.kind==2)then bif ((a.edit.kind==0)&&((a.edit.pos==0)&&((a.edit.cell.id==0)&&((a.edit.cell.version==0)&&((a.edit.cell.kind==0)&&((a.edit.cell.name==[])&&((a.edit.cell.code==[])&&(a.edit.cell.n==0))))))))then some (((a.reads.length:Int)==0))else some (false)else bif ((a.edit.kind==0)&&((a.edit.pos==0)&&((a.edit.cell.id==0)&&((a.edit.cell.version==0)&&((a.edit.cell.kind==0)&&((a.edit.cell.name==[])&&((a.edit.cell.code==[])&&(a.edit.cell.n==0))))))))then some ((a.dst==[]))else some (false)else bif (a.kind==1)then bif (a.dst==[])then some (false)else some (false)else bif (a.kind==2)then bif ((a.edit.kind==0)&&((a.edit.pos==0)&&((a.edit.cell.id==0)&&((a.edit.cell.version==0)&&((a.edit.cell.kind==0)&&((a.edit.cell.name==[])&&((a.edit.cell.code==[])&&(a.edit.cell.n==0))))))))then some (false)else some (false)else bif ((a.edit.kind==0)&&((a.edit.pos==0)&&((a.edit.cell.id==0)&&((a.edit.cell.version==0)&&((a.edit.cell.kind==0)&&((a.edit.cell.name==[])&&((a.edit.cell.code==[])&&(a.edit.cell.n==0))))))))then some ((a.dst==[]))else some (false)else bif (a.kind==1)then bif (a.dst==[])then some (false)else some (false)else bif (a.kind==2)then bif ((a.edit.kind==0)&&((a.edit.pos==0)&&((a.edit.cell.id==0)&&((a.edit.cell.version==0)&&((a.edit.cell.kind==0)&&((a.edit.cell.name==[])&&((a.edit.cell.code==[])&&(a.edit.cell.n==0))))))))then some (false)else some (false)else bif ((a.edit.kind==0)&&((a.edit.pos==0)&&((a.edit.cell.id==0)&&((a.edit.cell.version==0)&&((a.edit.cell.kind==0)&&((a.edit.cell.name==[])&&((a.edit.cell.code==[])&&(a.edit.cell.n==0))))))))then some ((a.dst==[]))else some (false)else bif (a.cell==0)then bif (a.version==0)then bif (a.kind==1)then some (false)else bif (a.kind==2)then bif ((a.edit.kind==0)&&((a.edit.pos==0)&&((a.edit.cell.id==0)&&((a.edit.cell.version==0)&&((a.edit.cell.kind==0)&&((a.edit.cell.name==[])&&((a.edit.cell.code==[])&&(a.edit.cell.n==0))))))))then some (((a.reads.length:Int)==0))else some (false)else bif ((a.edit.kind==0)&&((a.edit.pos==0)&&((a.edit.cell.id==0)&&((a.edit.cell.version==0)&&((a.edit.cell.kind==0)&&((a.edit.cell.name==[])&&((a.edit.cell.code==[])&&(a.edit.cell.n==0))))))))then some (false)else some (false)else bif (a.kind==1)then some (false)else bif (a.kind==2)then bif ((a.edit.kind==0)&&((a.edit.pos==0)&&((a.edit.cell.id==0)&&((a.edit.cell.version==0)&&((a.edit.cell.kind==0)&&((a.edit.cell.name==[])&&((a.edit.cell.code==[])&&(a.edit.cell.n==0))))))))then some (false)else some (false)else bif ((a.edit.kind==0)&&((a.edit.pos==0)&&((a.edit.cell.id==0)&&((a.edit.cell.version==0)&&((a.edit.cell.kind==0)&&((a.edit.cell.name==[])&&((a.edit.cell.code==[])&&(a.edit.cell.n==0))))))))then some (false)else some (false)else bif (a.kind==1)then some (false)else bif (a.kind==2)then bif ((a.edit.kind==0)&&((a.edit.pos==0)&&((a.edit.cell.id==0)&&((a.edit.cell.version==0)&&((a.edit.cell.kind==0)&&((a.edit.cell.name==[])&&((a.edit.cell.code==[])&&(a.edit.cell.n==0))))))))then some (false)else some (false)else bif ((a.edit.kind==0)&&((a.edit.pos==0)&&((a.edit.cell.id==0)&&((a.edit.cell.version==0)&&((a.edit.cell.kind==0)&&((a.edit.cell.name==[])&&((a.edit.cell.code==[])&&(a.edit.cell.n==0))))))))then
    some (false)
   else
    some (false)
def XQ:Fsp:=⟨112,[shT .op],[shF .bool],true,false,fun x=>pK x⟩
def wX(a:GOp)(b:GOp):Option (Bool):=bif (decide (a.time<b.time))then some (true)else bif (a.time==b.time)then some ((decide (a.by_<b.by_)))else some (false)
def aac:Fsp:=⟨113,[shT .op,shT .op],[shF .bool],true,false,fun x=>wX x.1 x.2⟩
def BX(a:List GOp):Option (Bool):=au (fun (b:(List GOp)×Int)=>bif (decide (b.2<(b.1.length:Int)))then (idx b.1 b.2).bind fun c=>(pK c).bind fun d=>bif (!d)then some (.inr (false))else bif (decide (b.2>0))then (idx b.1 (w64 (b.2-1))).bind fun e=>(idx b.1 b.2).bind fun f=>(wX e f).bind fun g=>bif (!g)then some (.inr (false))else some (.inl (b.1,w64 (b.2+1)))else some (.inl (b.1,w64 (b.2+1)))else some (.inr ((decide ((b.1.length:Int)<=60))))) (a,0)
def Ud:Fsp:=⟨61,[slF .op],[shF .bool],true,false,fun x=>BX x⟩
def Ip(a:List GOp)(b:Int):Option (Int):=au (fun(⟨e,f,g,h⟩:(List GOp)×Int×Int×Int)=>bif (decide (h<(e.length:Int)))then (idx e h).bind fun d=>bif (d.by_==f)then some (.inl (e,f,w64 (g+1),w64 (h+1)))else some (.inl (e,f,g,w64 (h+1)))else some (.inr (g))) (a,b,0,0)
def adG:Fsp:=⟨114,[slF .op,shF .int],[shF .int],true,false,fun x=>Ip x.1 x.2⟩
def xB(a:GOp)(b:List GOp)(c:Int):Option (Bool):=(lZ c 0 (w64 ((b.length:Int)-1))).bind fun d=>bif (!d)then some (false)else (idx b c).bind fun e=>(lZ e.by_ 0 (w64 ((a.seen.length:Int)-1))).bind fun f=>bif (!f)then some (false)else (eff.cutL b none (some c)).bind fun g=>(idx b c).bind fun h=>(Ip g h.by_).bind fun i=>(idx b c).bind fun j=>(idx a.seen j.by_).bind fun k=>some ((decide (i<k)))
def adF:Fsp:=⟨62,[shT .op,slF .op,shF .int],[shF .bool],true,false,fun x=>xB x.1 x.2.1 x.2.2⟩
def xh(a:List GOp)(b:GOp):Option (Int):=au (fun(⟨f,g,h,i,j,k,l,m,o,p,q,r,s,t,u,v,w,x,y⟩:(List GOp)×Int×Int×Int×(List Int)×Int×Int×Int×Int×Int×Str×Str×Int×Str×Str×Int×Int×(List aO)×Int)=>bif (decide (y<(f.length:Int)))then (idx f y).bind fun d=>bif (d.time==g)then (idx f y).bind fun e=>bif (e.by_==h)then some (.inr (y))else some (.inl (f,g,h,i,j,k,l,m,o,p,q,r,s,t,u,v,w,x,w64 (y+1)))else some (.inl (f,g,h,i,j,k,l,m,o,p,q,r,s,t,u,v,w,x,w64 (y+1)))else some (.inr ((-1)))) (a,b.time,b.by_,b.kind,b.seen,b.edit.kind,b.edit.pos,b.edit.cell.id,b.edit.cell.version,b.edit.cell.kind,b.edit.cell.name,b.edit.cell.code,b.edit.cell.n,b.src,b.dst,b.cell,b.version,b.reads,0)
def aag:Fsp:=⟨63,[slF .op,shT .op],[shF .int],true,false,fun x=>xh x.1 x.2⟩
def yX(a:List GOp):Option (aN):=(BX a).bind fun g=>bif (!g)then some (aN.mk (ak.mk []) [] [])else au (fun(⟨l,m,n,o,p,q,s,t⟩:(List GOp)×(List ah)×(List aJ)×(List GOp)×(List ah)×(List aJ)×(List GOp)×Int)=>bif (decide (t<(l.length:Int)))then au (fun(⟨c,u,v,w,x,y,z,A,B,C⟩:(List GOp)×(List ah)×(List aJ)×(List GOp)×(List ah)×(List aJ)×(List GOp)×Int×(List GOp)×Int)=>bif (decide (C<(z.length:Int)))then (idx c A).bind fun h=>(idx z C).bind fun _=>(z[C.toNat]?).bind fun i=>(xh c i).bind fun j=>(xB h c j).bind fun k=>bif (!k)then (idx z C).bind fun _=>(z[C.toNat]?).bind fun e=>(gd (B.length+[e].length)).bind fun _=>some (.inl (c,u,v,w,x,y,z,A,B++[e],w64 (C+1)))else some (.inl (c,u,v,w,x,y,z,A,B,w64 (C+1)))else ((idx c A).bind fun f=>(jO (aN.mk (ak.mk x) y z) f B).bind fun d=>some (.inl (c,u,v,w,d.notebook.cells,d.tapes,d.renames,w64 (A+1)))).bind fun r=>some (.inr r)) (l,m,n,o,p,q,s,t,[],0)else some (.inr (aN.mk (ak.mk p) q s))) (a,[],[],[],[],[],[],0)
def XA:Fsp:=⟨20,[slF .op],[shT .document],true,false,fun x=>yX x⟩
def uM(a:GOp):Option (Bool):=(iF a.time 1 300).bind fun c=>bif (!c)then some (false)else (iF a.by_ 0 2).bind fun d=>bif (!d)then some (false)else bif ((a.seen.length:Int) != 3)then some (false)else au (fun(⟨g,h,i,j,k,l,m,o,p,q,s,t,u,v,w,x,y,z,A,B⟩:Int×Int×Int×(List Int)×Int×Int×Int×Int×Int×Str×Str×Int×Str×Str×Int×Int×(List aO)×(List Int)×Int×Int)=>bif (decide (B<A))then (idx z B).bind fun e=>(iF e 0 60).bind fun f=>bif (!f)then some (.inr (false))else some (.inl (g,h,i,j,k,l,m,o,p,q,s,t,u,v,w,x,y,z,A,w64 (B+1)))else (bif (u==[])then bif (w==0)then bif (x==0)then bif (i==1)then bif (v==[])then some (((y.length:Int)==0))else some (false)else bif (i==2)then bif ((k==0)&&((l==0)&&((m==0)&&((o==0)&&((p==0)&&((q==[])&&((s==[])&&(t==0))))))))then some (((y.length:Int)==0))else some (false)else bif (i==3)then bif ((k==0)&&((l==0)&&((m==0)&&((o==0)&&((p==0)&&((q==[])&&((s==[])&&(t==0))))))))then some ((v==[]))else some (false)else some (false)else bif (i==1)then bif (v==[])then some (false)else some (false)else bif (i==2)then bif ((k==0)&&((l==0)&&((m==0)&&((o==0)&&((p==0)&&((q==[])&&((s==[])&&(t==0))))))))then some (false)else some (false)else bif (i==3)then bif ((k==0)&&((l==0)&&((m==0)&&((o==0)&&((p==0)&&((q==[])&&((s==[])&&(t==0))))))))then some ((v==[]))else some (false)else some (false)else bif (i==1)then bif (v==[])then some (false)else some (false)else bif (i==2)then bif ((k==0)&&((l==0)&&((m==0)&&((o==0)&&((p==0)&&((q==[])&&((s==[])&&(t==0))))))))then some (false)else some (false)else bif (i==3)then bif ((k==0)&&((l==0)&&((m==0)&&((o==0)&&((p==0)&&((q==[])&&((s==[])&&(t==0))))))))then some ((v==[]))else some (false)else some (false)else bif (w==0)then bif (x==0)then bif (i==1)then some (false)else bif (i==2)then bif ((k==0)&&((l==0)&&((m==0)&&((o==0)&&((p==0)&&((q==[])&&((s==[])&&(t==0))))))))then
       some (((y.length:Int)==0))
      else
       some (false)
     else
      bif (i==3)then
       bif ((k==0)&&((l==0)&&((m==0)&&((o==0)&&((p==0)&&((q==[])&&((s==[])&&(t==0))))))))then
        some (false)
       else
        some (false)
      else
       some (false)
    else
    bif (i==1)then
     some (false)
    else
    bif (i==2)then
     bif ((k==0)&&((l==0)&&((m==0)&&((o==0)&&((p==0)&&((q==[])&&((s==[])&&(t==0))))))))then
      some (false)
     else
      some (false)
    else
     bif (i==3)then
      bif ((k==0)&&((l==0)&&((m==0)&&((o==0)&&((p==0)&&((q==[])&&((s==[])&&(t==0))))))))then
       some (false)
      else
       some (false)
     else
      some (false)
   else
   bif (i==1)then
    some (false)
   else
   bif (i==2)then
    bif ((k==0)&&((l==0)&&((m==0)&&((o==0)&&((p==0)&&((q==[])&&((s==[])&&(t==0))))))))then
     some (false)
    else
     some (false)
   else
    bif (i==3)then
     bif ((k==0)&&((l==0)&&((m==0)&&((o==0)&&((p==0)&&((q==[])&&((s==[])&&(t==0))))))))then
      some (false)
     else
      some (false)
    else
     some (false)
  ).bind fun r=>some (.inr r)
 ) (a.time,a.by_,a.kind,a.seen,a.edit.kind,a.edit.pos,a.edit.cell.id,a.edit.cell.version,a.edit.cell.kind,a.edit.cell.name,a.edit.cell.code,a.edit.cell.n,a.src,a.dst,a.cell,a.version,a.reads,a.seen,(a.seen.length:Int),0)
def YS:Fsp:=⟨115,[shT .op],[shF .bool],true,false,fun x=>uM x⟩
def KO(a:GOp)(b:GOp):Option (Bool):=bif (decide (a.time<b.time))then some (true)else bif (a.time==b.time)then some ((decide (a.by_<b.by_)))else some (false)
def abr:Fsp:=⟨116,[shT .op,shT .op],[shF .bool],true,false,fun x=>KO x.1 x.2⟩
def Di(a:List GOp):Option (Bool):=au (fun(⟨g,h,i,j⟩:(List GOp)×(List GOp)×Int×Int)=>bif (decide (j<i))then (idx h j).bind fun c=>(uM c).bind fun d=>bif (!d)then some (.inr (false))else bif (decide (j>0))then (idx g (w64 (j-1))).bind fun e=>(KO e c).bind fun f=>bif (!f)then some (.inr (false))else some (.inl (g,h,i,w64 (j+1)))else some (.inl (g,h,i,w64 (j+1)))else some (.inr ((decide ((g.length:Int)<=60))))) (a,a,(a.length:Int),0)
def UU:Fsp:=⟨64,[slF .op],[shF .bool],true,false,fun x=>Di x⟩
def Jc(a:List GOp)(b:Int):Option (Int):=au (fun(⟨e,f,g,h,i⟩:Int×Int×(List GOp)×Int×Int)=>bif (decide (i<h))then (idx g i).bind fun d=>bif (d.by_==e)then some (.inl (e,w64 (f+1),g,h,w64 (i+1)))else some (.inl (e,f,g,h,w64 (i+1)))else some (.inr (f))) (b,0,a,(a.length:Int),0)
def aew:Fsp:=⟨117,[slF .op,shF .int],[shF .int],true,false,fun x=>Jc x.1 x.2⟩
def Dl(a:GOp)(b:List GOp)(c:Int):Option (Bool):=bif (decide (c<0))then some (false)else bif (decide (c>=(b.length:Int)))then some (false)else (idx b c).bind fun d=>bif (decide (d.by_<0))then some (false)else (idx b c).bind fun e=>bif (decide (e.by_>=(a.seen.length:Int)))then some (false)else (eff.cutL b none (some c)).bind fun f=>(idx b c).bind fun g=>(Jc f g.by_).bind fun h=>(idx b c).bind fun i=>(idx a.seen i.by_).bind fun j=>some ((decide (h<j)))
def aeu:Fsp:=⟨65,[shT .op,slF .op,shF .int],[shF .bool],true,false,fun x=>Dl x.1 x.2.1 x.2.2⟩
def uK(a:List GOp):Option (aN):=(Di a).bind fun h=>bif (!h)then some (aN.mk (ak.mk []) [] [])else au (fun(⟨j,k,l,m,o,p,q,s,t,u,v⟩:(List GOp)×(List ah)×(List aJ)×(List GOp)×(List ah)×(List aJ)×(List GOp)×(List Int)×(List GOp)×Int×Int)=>bif (decide (v<u))then (idx t v).bind fun d=>au (fun(⟨c,w,x,y,z,A,B,C,D,E,F,G,H,I,J,K,L,M,N,O,P,Q,R,S,T,U,V,W,X,Y,Z,aa⟩:(List GOp)×(List ah)×(List aJ)×(List GOp)×(List ah)×(List aJ)×(List GOp)×(List Int)×Int×Int×Int×Int×(List Int)×Int×Int×Int×Int×Int×Str×Str×Int×Str×Str×Int×Int×(List aO)×(List GOp)×(List GOp)×Int×Int×Int×Int)=>bif (decide (aa<Z))then (idx C aa).bind fun _=>(C[aa.toNat]?).bind fun f=>(Dl (GOp.mk E F G H (dP.mk I J (ah.mk K L M N O P)) Q R S T U) c f).bind fun i=>bif (!i)then (idx c f).bind fun g=>(gd (V.length+[g].length)).bind fun _=>some (.inl (c,w,x,y,z,A,B,C,D,E,F,G,H,I,J,K,L,M,N,O,P,Q,R,S,T,U,V++[g],W,X,Y,Z,w64 (aa+1)))else some (.inl (c,w,x,y,z,A,B,C,D,E,F,G,H,I,J,K,L,M,N,O,P,Q,R,S,T,U,V,W,X,Y,Z,w64 (aa+1)))
    else
     (
      (ou (aN.mk (ak.mk z) A B) (GOp.mk E F G H (dP.mk I J (ah.mk K L M N O P)) Q R S T U) V).bind fun e=>
      bif (decide ((e.renames.length:Int)>(B.length:Int)))then
       (gd (C.length+[D].length)).bind fun _=>
       some (.inl (c,w,x,y,e.notebook.cells,e.tapes,e.renames,C++[D],W,X,w64 (Y+1)))
      else
       some (.inl (c,w,x,y,e.notebook.cells,e.tapes,e.renames,C,W,X,w64 (Y+1)))
     ).bind fun r=>some (.inr r)
   ) (j,k,l,m,o,p,q,s,v,d.time,d.by_,d.kind,d.seen,d.edit.kind,d.edit.pos,d.edit.cell.id,d.edit.cell.version,d.edit.cell.kind,d.edit.cell.name,d.edit.cell.code,d.edit.cell.n,d.src,d.dst,d.cell,d.version,d.reads,[],t,u,v,(s.length:Int),0)
  else
   some (.inr (aN.mk (ak.mk o) p q))
 ) (a,[],[],[],[],[],[],[],a,(a.length:Int),0)
def YF:Fsp:=⟨21,[slF .op],[shT .document],true,false,fun x=>uK x⟩
def FnExactReplayLog(a:List GOp):Option (Bool):=(O9 a 1048576).bind fun l=>bif (decide (l<0))then some (true)else (Bo a).bind fun m=>(yX m).bind fun e=>(Bo a).bind fun f=>(uK f).bind fun g=>(jJ g e).bind fun n=>bif (!n)then some (false)else (Bo a).bind fun o=>(V9 f o).bind fun p=>bif (!p)then some (false)else (Em f 1).bind fun q=>bif (decide (q.2<0))then some (false)else (jJ g e).bind fun h=>bif (!h)then some (false)else (lV g 1).bind fun b=>(kP b.1 1).bind fun c=>bif (decide (c<0))then some (false)else bif (c != b.2)then some (false)else (Bo a).bind fun i=>(uK i).bind fun j=>(jJ j e).bind fun k=>bif (!k)then some (false)else (kP b.1 1).bind fun d=>bif (decide (d<0))then some (false)else bif (d != b.2)then some (false)else some (true)
def Hg:Fsp:=⟨4,[slF .op],[shF .bool],true,false,fun x=>FnExactReplayLog x⟩
end
end Go.Proofs.YtbbmkcioplbhbaaGreatDoor
