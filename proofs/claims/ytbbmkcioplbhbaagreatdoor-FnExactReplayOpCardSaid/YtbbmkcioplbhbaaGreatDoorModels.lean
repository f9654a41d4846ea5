import Derived.Test.YtbbmkcioplbhbaaGreatDoorLink1
set_option linter.unusedVariables false
/- What the functions compute, by gen.py. -/
namespace Go.Proofs.YtbbmkcioplbhbaaGreatDoor
noncomputable section
open Go.Abs Go.Proofs
abbrev shT(b:Base):Sh:=⟨true,.base b⟩
abbrev shF(b:Base):Sh:=⟨false,.base b⟩
abbrev slF(b:Base):Sh:=⟨false,.list (.base b)⟩
abbrev siz{α:Type}[SizeOf α](x:α):Nat:=SizeOf.sizeOf x
abbrev w64(n:Int):Int:=IntKind.i64.wrap n
abbrev w8(n:Int):Int:=IntKind.u8.wrap n
def pU:Isp:={ fid:=233,t:=.base .str,fn:=iZ }
def Xi(a:List Int)(b:Int):Option (Int):=bif (decide ((w64 (b-(a.length:Int)))<0))then some ((-1))else some (w64 (b-(a.length:Int)))
def ahT:Fsp:=⟨24,[slF .int,shF .int],[shF .int],true,false,fun x=>Xi x.1 x.2⟩
def JH(a:ah)(b:Int):Option (Int):=bif (decide ((w64 (b-(a.name.length:Int)))<0))then some ((-1))else bif (decide ((w64 ((w64 (b-(a.name.length:Int)))-(a.code.length:Int)))<0))then some ((-1))else some (w64 ((w64 (b-(a.name.length:Int)))-(a.code.length:Int)))
def ahV:Fsp:=⟨68,[shT .cell,shF .int],[shF .int],true,false,fun x=>JH x.1 x.2⟩
def Xj(a:dZ)(b:Int):Option (Int):=(JH a.cell b).bind fun c=>bif (decide (c<0))then some ((-1))else some (c)
def ahU:Fsp:=⟨25,[shT .edit,shF .int],[shF .int],true,false,fun x=>Xj x.1 x.2⟩
def JD(a:List Str)(b:Int):Option (Int):=bif (decide ((w64 (b-(a.length:Int)))<0))then some ((-1))else au (fun(⟨e,f,g⟩:(List Str)×Int×Int)=>bif (decide (g<(e.length:Int)))then (idx e g).bind fun d=>bif (decide ((w64 (f-(d.length:Int)))<0))then some (.inr ((-1)))else some (.inl (e,w64 (f-(d.length:Int)),w64 (g+1)))else some (.inr (f))) (a,w64 (b-(a.length:Int)),0)
def ZE:Fsp:=⟨158,[slF .str,shF .int],[shF .int],true,false,fun x=>JD x.1 x.2⟩
def JF(a:List bQ)(b:Int):Option (Int):=bif (decide ((w64 (b-(a.length:Int)))<0))then some ((-1))else some (w64 (b-(a.length:Int)))
def ZG:Fsp:=⟨246,[slF .origin,shF .int],[shF .int],true,false,fun x=>JF x.1 x.2⟩
def ZF(a:bD)(b:Int):Option (Int):=(Xi a.cells b).bind fun c=>bif (decide (c<0))then some ((-1))else (JF a.orig c).bind fun d=>bif (decide (d<0))then some ((-1))else some (d)
def aky:Fsp:=⟨198,[shT .row,shF .int],[shF .int],true,false,fun x=>ZF x.1 x.2⟩
def acC(a:List bD)(b:Int):Option (Int):=bif (decide ((w64 (b-(a.length:Int)))<0))then some ((-1))else au (fun(⟨f,g,h⟩:(List bD)×Int×Int)=>bif (decide (h<(f.length:Int)))then (idx f h).bind fun e=>(ZF e g).bind fun d=>bif (decide (d<0))then some (.inr ((-1)))else some (.inl (f,d,w64 (h+1)))else some (.inr (g))) (a,w64 (b-(a.length:Int)),0)
def ahR:Fsp:=⟨159,[slF .row,shF .int],[shF .int],true,false,fun x=>acC x.1 x.2⟩
def O3(rszValue:aC->Int->Option (Int))(rszValueS:(List aC)->Int->Option (Int))(a:aC)(b:Int):Option (Int):=bif (decide ((w64 (b-(a.text.length:Int)))<0))then some ((-1))else (rszValueS a.list (w64 (b-(a.text.length:Int)))).bind fun c=>bif (decide (c<0))then some ((-1))else (JD a.columns c).bind fun d=>bif (decide (d<0))then some ((-1))else (acC a.rows d).bind fun e=>bif (decide (e<0))then some ((-1))else some (e)
def afP(rszValue:aC->Int->Option (Int))(rszValueS:(List aC)->Int->Option (Int))(a:List aC)(b:Int):Option (Int):=bif (decide ((w64 (b-(a.length:Int)))<0))then some ((-1))else au (fun(⟨f,g,h⟩:(List aC)×Int×Int)=>bif (decide (h<(f.length:Int)))then (idx f h).bind fun e=>(rszValue (dB e) g).bind fun d=>bif (decide (d<0))then some (.inr ((-1)))else some (.inl (f,d,w64 (h+1)))else some (.inr (g))) (a,w64 (b-(a.length:Int)),0)
def jJ:Nat->(aC->Int->Option (Int))×((List aC)->Int->Option (Int))
 | 0=>(fun _ _=>none,fun _ _=>none)
 | n+1=>(O3 (jJ n).1 (jJ n).2,afP (jJ n).1 (jJ n).2)
def Xe(a:aC)(b:Int):Option (Int):=(jJ (siz a+1)).1 a b
def afQ:Fsp:=⟨118,[shT .val,shF .int],[shF .int],true,false,fun x=>Xe x.1 x.2⟩
def O1(n:Nat):Fsp:=⟨118,[shT .val,shF .int],[shF .int],true,false,fun x=>(jJ n).1 x.1 x.2⟩
def ahO(a:List aC)(b:Int):Option (Int):=(jJ (siz a+1)).2 a b
def acz:Fsp:=⟨157,[slF .val,shF .int],[shF .int],true,false,fun x=>ahO x.1 x.2⟩
def LQ(n:Nat):Fsp:=⟨157,[slF .val,shF .int],[shF .int],true,false,fun x=>(jJ n).2 x.1 x.2⟩
def JE(a:aN)(b:Int):Option (Int):=bif (decide ((w64 (b-(a.text.length:Int)))<0))then some ((-1))else (Xe (dB a.result) (w64 (b-(a.text.length:Int)))).bind fun c=>bif (decide (c<0))then some ((-1))else some (c)
def ahS:Fsp:=⟨69,[shT .read,shF .int],[shF .int],true,false,fun x=>JE x.1 x.2⟩
def DT(a:List aN)(b:Int):Option (Int):=bif (decide ((w64 (b-(a.length:Int)))<0))then some ((-1))else au (fun(⟨f,g,h⟩:(List aN)×Int×Int)=>bif (decide (h<(f.length:Int)))then (idx f h).bind fun e=>(JE (iW e) g).bind fun d=>bif (decide (d<0))then some (.inr ((-1)))else some (.inl (f,d,w64 (h+1)))else some (.inr (g))) (a,w64 (b-(a.length:Int)),0)
def afW:Fsp:=⟨26,[slF .read,shF .int],[shF .int],true,false,fun x=>DT x.1 x.2⟩
def ZH(a:GOp)(b:Int):Option (Int):=(Xi a.seen b).bind fun d=>bif (decide (d<0))then some ((-1))else (Xj a.edit d).bind fun c=>bif (decide (c<0))then some ((-1))else bif (decide ((w64 (c-(a.src.length:Int)))<0))then some ((-1))else bif (decide ((w64 ((w64 (c-(a.src.length:Int)))-(a.dst.length:Int)))<0))then some ((-1))else (DT a.reads (w64 ((w64 (c-(a.src.length:Int)))-(a.dst.length:Int)))).bind fun e=>bif (decide (e<0))then some ((-1))else some (e)
def aoH:Fsp:=⟨6,[shT .op,shF .int],[shF .int],true,false,fun x=>ZH x.1 x.2⟩
def aeM(a:List GOp)(b:Int):Option (Int):=bif (decide ((w64 (b-(a.length:Int)))<0))then some ((-1))else au (fun(⟨f,g,h⟩:(List GOp)×Int×Int)=>bif (decide (h<(f.length:Int)))then (idx f h).bind fun e=>(ZH e g).bind fun d=>bif (decide (d<0))then some (.inr ((-1)))else some (.inl (f,d,w64 (h+1)))else some (.inr (g))) (a,w64 (b-(a.length:Int)),0)
def akA:Fsp:=⟨7,[slF .op,shF .int],[shF .int],true,false,fun x=>aeM x.1 x.2⟩
def Xl(a:List ah)(b:Int):Option (Int):=bif (decide ((w64 (b-(a.length:Int)))<0))then some ((-1))else au (fun(⟨f,g,h⟩:(List ah)×Int×Int)=>bif (decide (h<(f.length:Int)))then (idx f h).bind fun e=>(JH e g).bind fun d=>bif (decide (d<0))then some (.inr ((-1)))else some (.inl (f,d,w64 (h+1)))else some (.inr (g))) (a,w64 (b-(a.length:Int)),0)
def afX:Fsp:=⟨66,[slF .cell,shF .int],[shF .int],true,false,fun x=>Xl x.1 x.2⟩
def yQ(a:ak)(b:Int):Option (Int):=(Xl a.cells b).bind fun c=>bif (decide (c<0))then some ((-1))else some (c)
def Xh:Fsp:=⟨22,[shT .notebook,shF .int],[shF .int],true,false,fun x=>yQ x.1 x.2⟩
def Bj(a:aK)(b:Int):Option (Int):=(DT a.reads b).bind fun c=>bif (decide (c<0))then some ((-1))else some (c)
def ahP:Fsp:=⟨67,[shT .tape,shF .int],[shF .int],true,false,fun x=>Bj x.1 x.2⟩
def Hr(a:List aK)(b:Int):Option (Int):=bif (decide ((w64 (b-(a.length:Int)))<0))then some ((-1))else au (fun(⟨f,g,h⟩:(List aK)×Int×Int)=>bif (decide (h<(f.length:Int)))then (idx f h).bind fun e=>(Bj e g).bind fun d=>bif (decide (d<0))then some (.inr ((-1)))else some (.inl (f,d,w64 (h+1)))else some (.inr (g))) (a,w64 (b-(a.length:Int)),0)
def afT:Fsp:=⟨23,[slF .tape,shF .int],[shF .int],true,false,fun x=>Hr x.1 x.2⟩
def o9(a:aO)(b:Int):Option (Int):=(yQ a.notebook b).bind fun c=>bif (decide (c<0))then some ((-1))else (Hr a.tapes c).bind fun d=>bif (decide (d<0))then some ((-1))else (aeM a.renames d).bind fun e=>bif (decide (e<0))then some ((-1))else some (e)
def Xk:Fsp:=⟨5,[shT .document,shF .int],[shF .int],true,false,fun x=>o9 x.1 x.2⟩
def iV(a:ak):Option (ak):=(gd (0+a.cells.length)).bind fun _=>some (ak.mk ([]++a.cells))
def ac1:Fsp:=⟨70,[shT .notebook],[shT .notebook],true,false,fun x=>iV x⟩
def JQ(a:bD):Option (bD):=(gd (0+a.cells.length)).bind fun _=>(gd (0+a.orig.length)).bind fun _=>some (bD.mk ([]++a.cells) ([]++a.orig))
def ah8:Fsp:=⟨220,[shT .row],[shT .row],true,false,fun x=>JQ x⟩
def BF(rsL3Copy:aC->Option (aC))(a:aC):Option (aC):=(gd (0+a.columns.length)).bind fun _=>au (fun(⟨h,i,j,k,l,m,o,p,q,s,t,u,v,w,x,y,z,A,B,C,D,E⟩:Int×Int×Int×Str×(List aC)×(List Str)×(List bD)×Int×Int×Int×Str×(List aC)×(List Str)×(List bD)×Int×Int×Int×Str×(List aC)×(List Str)×(List bD)×Int)=>bif (decide (E<(l.length:Int)))then (idx l E).bind fun f=>(rsL3Copy (dB f)).bind fun d=>(gd (B.length+[dB d].length)).bind fun _=>some (.inl (h,i,j,k,l,m,o,p,q,s,t,u,v,w,x,y,z,A,B++[dB d],C,D,w64 (E+1)))else (au (fun(⟨b,F,G,H,I,J,K,L,M,N,O,P,Q,R,S,T,U,V,W,X,Y,Z⟩:Int×Int×Int×Str×(List aC)×(List Str)×(List bD)×Int×Int×Int×Str×(List aC)×(List Str)×(List bD)×Int×Int×Int×Str×(List aC)×(List Str)×(List bD)×Int)=>bif (decide (Z<(K.length:Int)))then (idx K Z).bind fun g=>(JQ g).bind fun e=>(gd (Y.length+[e].length)).bind fun _=>some (.inl (b,F,G,H,I,J,K,L,M,N,O,P,Q,R,S,T,U,V,W,X,Y++[e],w64 (Z+1)))else some (.inr (aC.mk S T U V W X Y))) (h,i,j,k,l,m,o,p,q,s,t,u,v,w,x,y,z,A,B,C,D,0)).bind fun r=>some (.inr r)) (a.kind,a.n,a.step,a.text,a.list,a.columns,a.rows,0,0,0,[],[],[],[],a.kind,a.n,a.step,a.text,[],[]++a.columns,[],0)
def wZ:Nat->(aC->Option (aC))
 | 0=>fun _=>none
 | n+1=>BF (wZ n)
def DZ(a:aC):Option (aC):=(wZ (siz a+1)) a
def agb:Fsp:=⟨173,[shT .val],[shT .val],true,false,fun x=>DZ x⟩
def Pv(n:Nat):Fsp:=⟨173,[shT .val],[shT .val],true,false,fun x=>(wZ n) x⟩
def BK(a:aN):Option (aN):=(DZ (dB a.result)).bind fun b=>some (aN.mk a.kind a.n a.time a.text (dB b))
def ac3:Fsp:=⟨132,[shT .read],[shT .read],true,false,fun x=>BK x⟩
def sV(a:List aN):Option ((List aN)):=au (fun(⟨e,f,g⟩:(List aN)×(List aN)×Int)=>bif (decide (g<(e.length:Int)))then (idx e g).bind fun d=>(BK (iW d)).bind fun c=>(gd (f.length+[iW c].length)).bind fun _=>some (.inl (e,f++[iW c],w64 (g+1)))else some (.inr (f))) (a,[],0)
def Z8:Fsp:=⟨81,[slF .read],[slF .read],true,false,fun x=>sV x⟩
def Ic(a:List aK):Option ((List aK)):=au (fun(⟨g,h,i⟩:(List aK)×(List aK)×Int)=>bif (decide (i<(g.length:Int)))then (idx g i).bind fun c=>(idx g i).bind fun d=>(idx g i).bind fun f=>(sV f.reads).bind fun e=>(gd (h.length+[aK.mk c.cell d.version e].length)).bind fun _=>some (.inl (g,h++[aK.mk c.cell d.version e],w64 (i+1)))else some (.inr (h))) (a,[],0)
def acX:Fsp:=⟨71,[slF .tape],[slF .tape],true,false,fun x=>Ic x⟩
def BB(a:GOp):Option (GOp):=(gd (0+a.seen.length)).bind fun _=>(sV a.reads).bind fun b=>some (GOp.mk a.time a.by_ a.kind ([]++a.seen) a.edit a.src a.dst a.cell a.version b)
def acU:Fsp:=⟨33,[shT .op],[shT .op],true,false,fun x=>BB x⟩
def Oj(a:List GOp):Option ((List GOp)):=au (fun(⟨e,f,g⟩:(List GOp)×(List GOp)×Int)=>bif (decide (g<(e.length:Int)))then (idx e g).bind fun d=>(BB d).bind fun c=>(gd (f.length+[c].length)).bind fun _=>some (.inl (e,f++[c],w64 (g+1)))else some (.inr (f))) (a,[],0)
def af9:Fsp:=⟨72,[slF .op],[slF .op],true,false,fun x=>Oj x⟩
def Ia(a:aO):Option (aO):=(iV a.notebook).bind fun b=>(Ic a.tapes).bind fun c=>(Oj a.renames).bind fun d=>some (aO.mk b c d)
def acR:Fsp:=⟨27,[shT .document],[shT .document],true,false,fun x=>Ia x⟩
def wX(a:Int):Option (Bool):=bif (decide (a>=97))then some ((decide (a<=122)))else some (false)
def ZV:Fsp:=⟨247,[shF .u8],[shF .bool],true,false,fun x=>wX x⟩
def wY(a:Int):Option (Bool):=bif (decide (a>=48))then some ((decide (a<=57)))else some (false)
def acQ:Fsp:=⟨248,[shF .u8],[shF .bool],true,false,fun x=>wY x⟩
def fZ(a:Int):Option (Str):=bif (a==0)then some ([48])else au (fun(⟨c,d,e⟩:Int×Bool×Str)=>bif (c != 0)then bif (decide ((c.tmod 10)<0))then (gd ((bytesOf [w8 (w64 (48+(w64 (0-(c.tmod 10)))))]).length+e.length)).bind fun _=>some (.inl (w64 (c.tdiv 10),d,(bytesOf [w8 (w64 (48+(w64 (0-(c.tmod 10)))))])++e))else (gd ((bytesOf [w8 (w64 (48+(c.tmod 10)))]).length+e.length)).bind fun _=>some (.inl (w64 (c.tdiv 10),d,(bytesOf [w8 (w64 (48+(c.tmod 10)))])++e))else (bif d then (gd ([45].length+e.length)).bind fun _=>some ([45]++e)else some (e)).bind fun r=>some (.inr r)) (a,(decide (a<0)),[])
def XI:Fsp:=⟨209,[shF .int],[shF .str],true,false,fun x=>fZ x⟩
def D6(a:Str)(b:Int):Option (Int×Bool):=bif (decide ((a.length:Int)>0))then (idx a 0).bind fun f=>bif ((f.toNat:Int)==45)then (eff.cutL a (some 1) none).bind fun g=>bif (decide ((g.length:Int)<1))then some (0,false)else bif (decide ((g.length:Int)>b))then some (0,false)else au (fun(⟨x,y,z,A,B⟩:Str×Bool×Str×Int×Int)=>bif (decide (B<(z.length:Int)))then (idx z B).bind fun s=>bif (decide ((s.toNat:Int)<48))then some (.inr (0,false))else (idx z B).bind fun t=>bif (decide ((t.toNat:Int)>57))then some (.inr (0,false))else (idx z B).bind fun u=>some (.inl (x,y,z,w64 ((w64 (10*A))+(w64 (w8 ((u.toNat:Int)-48)))),w64 (B+1)))else (bif y then (fZ (w64 (0-A))).bind fun v=>bif (!(v==x))then some (0,false)else some (w64 (0-A),true)else (fZ A).bind fun w=>bif (!(w==x))then some (0,false)else some (A,true)).bind fun r=>some (.inr r)) (a,((f.toNat:Int)==45),g,0,0)else bif (decide ((a.length:Int)<1))then some (0,false)else bif (decide ((a.length:Int)>b))then some (0,false)else au (fun(⟨d,C,D,E,F⟩:Str×Bool×Str×Int×Int)=>bif (decide (F<(D.length:Int)))then (idx D F).bind fun h=>bif (decide ((h.toNat:Int)<48))then some (.inr (0,false))else (idx D F).bind fun i=>bif (decide ((i.toNat:Int)>57))then some (.inr (0,false))else (idx D F).bind fun j=>some (.inl (d,C,D,w64 ((w64 (10*E))+(w64 (w8 ((j.toNat:Int)-48)))),w64 (F+1)))else (bif C then (fZ (w64 (0-E))).bind fun k=>bif (!(k==d))then some (0,false)else some (w64 (0-E),true)else (fZ E).bind fun l=>bif (!(l==d))then some (0,false)else some (E,true)).bind fun r=>some (.inr r)) (a,((f.toNat:Int)==45),a,0,0)else bif (decide ((a.length:Int)<1))then some (0,false)else bif (decide ((a.length:Int)>b))then some (0,false)else au (fun(⟨e,G,H,I,J⟩:Str×Bool×Str×Int×Int)=>bif (decide (J<(H.length:Int)))then (idx H J).bind fun m=>bif (decide ((m.toNat:Int)<48))then some (.inr (0,false))else (idx H J).bind fun n=>bif (decide ((n.toNat:Int)>57))then some (.inr (0,false))else (idx H J).bind fun o=>some (.inl (e,G,H,w64 ((w64 (10*I))+(w64 (w8 ((o.toNat:Int)-48)))),w64 (J+1)))else (bif G then (fZ (w64 (0-I))).bind fun p=>bif (!(p==e))then some (0,false)else some (w64 (0-I),true)else (fZ I).bind fun q=>bif (!(q==e))then some (0,false)else some (I,true)).bind fun r=>some (.inr r)) (a,false,a,0,0)
def agf:Fsp:=⟨281,[shF .str,shF .int],[shF .int,shF .bool],true,false,fun x=>D6 x.1 x.2⟩
def jK(a:Str):Option (Int×Bool):=(D6 a 12).bind fun b=>some (b.1,b.2)
def ZQ:Fsp:=⟨249,[shF .str],[shF .int,shF .bool],true,false,fun x=>jK x⟩
def fV(a:Str):Option (Bool):=au (fun (b:Str×Int)=>bif (decide (b.2<(b.1.length:Int)))then (idx b.1 b.2).bind fun c=>bif (decide ((c.toNat:Int)<32))then some (.inr (false))else (idx b.1 b.2).bind fun d=>bif (decide ((d.toNat:Int)>126))then some (.inr (false))else (idx b.1 b.2).bind fun e=>bif ((e.toNat:Int)==34)then some (.inr (false))else some (.inl (b.1,w64 (b.2+1)))else some (.inr ((decide ((b.1.length:Int)<=20))))) (a,0)
def P5:Fsp:=⟨250,[shF .str],[shF .bool],true,false,fun x=>fV x⟩
def lQ(a:Str)(b:Int):Option (Int):=(idx a b).bind fun c=>bif ((c.toNat:Int)==40)then some (1)else bif ((c.toNat:Int)==41)then some (1)else bif ((c.toNat:Int)==91)then some (1)else bif ((c.toNat:Int)==93)then some (1)else bif ((c.toNat:Int)==44)then some (1)else bif ((c.toNat:Int)==43)then some (1)else bif ((c.toNat:Int)==45)then some (1)else bif ((c.toNat:Int)==42)then some (1)else bif ((c.toNat:Int)==60)then some (1)else bif ((c.toNat:Int)==61)then bif (decide ((w64 (b+1))<(a.length:Int)))then (idx a (w64 (b+1))).bind fun d=>bif ((d.toNat:Int)==61)then some (2)else some (1)else some (1)else some (0)
def ZU:Fsp:=⟨251,[shF .str,shF .int],[shF .int],true,false,fun x=>lQ x.1 x.2⟩
def ng(a:Str)(b:Int):Option (aJ×Int):=(idx a b).bind fun y=>(wX (y.toNat:Int)).bind fun z=>bif z then au (fun(⟨E,F,G,H,I,J,K,L,M,N,O⟩:Str×Int×Int×Int×Int×Str×Int×Int×Int×Str×Int)=>bif (decide (O<(E.length:Int)))then (idx E O).bind fun A=>(wX (A.toNat:Int)).bind fun B=>bif B then some (.inl (E,F,G,H,I,J,K,L,M,N,w64 (O+1)))else (idx E O).bind fun C=>(wY (C.toNat:Int)).bind fun D=>bif D then some (.inl (E,F,G,H,I,J,K,L,M,N,w64 (O+1)))else ((eff.cutL E (some F) (some O)).bind fun w=>bif (decide ((w64 (O-F))>8))then some (aJ.mk 1 L M w,0)else some (aJ.mk 1 L M w,w64 (O-F))).bind fun r=>some (.inr r)else ((eff.cutL E (some F) (some O)).bind fun x=>bif (decide ((w64 (O-F))>8))then some (aJ.mk 1 L M x,0)else some (aJ.mk 1 L M x,w64 (O-F))).bind fun r=>some (.inr r)) (a,b,0,0,0,[],0,0,b,[],b)else (idx a b).bind fun k=>(wY (k.toNat:Int)).bind fun l=>bif l then au (fun(⟨e,P,Q,R,S,T,U,V,W,X,Y⟩:Str×Int×Int×Int×Int×Str×Int×Int×Int×Str×Int)=>bif (decide (Y<(e.length:Int)))then (idx e Y).bind fun m=>(wY (m.toNat:Int)).bind fun n=>bif n then some (.inl (e,P,Q,R,S,T,U,V,W,X,w64 (Y+1)))else ((eff.cutL e (some P) (some Y)).bind fun o=>(jK o).bind fun f=>bif (!f.2)then some (aJ.mk 2 f.1 W X,0)else bif (decide (f.1>1000000000))then some (aJ.mk 2 f.1 W X,0)else some (aJ.mk 2 f.1 W X,w64 (Y-P))).bind fun r=>some (.inr r)else ((eff.cutL e (some P) (some Y)).bind fun p=>(jK p).bind fun g=>bif (!g.2)then some (aJ.mk 2 g.1 W X,0)else bif (decide (g.1>1000000000))then some (aJ.mk 2 g.1 W X,0)else some (aJ.mk 2 g.1 W X,w64 (Y-P))).bind fun r=>some (.inr r)) (a,b,0,0,0,[],0,0,b,[],b)else (idx a b).bind fun q=>bif ((q.toNat:Int)==34)then au (fun(⟨d,Z,aa,ac,ae,al,aq,ar,aw,az,aD⟩:Str×Int×Int×Int×Int×Str×Int×Int×Int×Str×Int)=>bif (decide (aD<(d.length:Int)))then (idx d aD).bind fun s=>bif ((s.toNat:Int) != 34)then some (.inl (d,Z,aa,ac,ae,al,aq,ar,aw,az,w64 (aD+1)))else ((eff.cutL d (some (w64 (Z+1))) (some aD)).bind fun h=>bif (aD==(d.length:Int))then some (aJ.mk 3 ar aw h,0)else (fV h).bind fun t=>bif (!t)then some (aJ.mk 3 ar aw h,0)else some (aJ.mk 3 ar aw h,w64 ((w64 (aD+1))-Z))).bind fun r=>some (.inr r)else ((eff.cutL d (some (w64 (Z+1))) (some aD)).bind fun i=>bif (aD==(d.length:Int))then some (aJ.mk 3 ar aw i,0)else
      (fV i).bind fun u=>
      bif (!u)then
       some (aJ.mk 3 ar aw i,0)
      else
       some (aJ.mk 3 ar aw i,w64 ((w64 (aD+1))-Z))
    ).bind fun r=>some (.inr r)
  ) (a,b,0,0,0,[],0,0,b,[],w64 (b+1))
 else
  (lQ a b).bind fun j=>
  (eff.cutL a (some b) (some (w64 (b+j)))).bind fun v=>
  some (aJ.mk 4 0 b v,w64 ((w64 (b+j))-b))
def af8:Fsp:=⟨199,[shF .str,shF .int],[shT .token,shF .int],true,false,fun x=>ng x.1 x.2⟩
def wV(a:Str):Option ((List aJ)×Int):=bif (decide ((a.length:Int)>120))then some ([],120)else au (fun(⟨e,f,g⟩:Str×(List aJ)×Int)=>bif (decide (g<(e.length:Int)))then (idx e g).bind fun d=>bif ((d.toNat:Int)==32)then some (.inl (e,f,w64 (g+1)))else (ng e g).bind fun c=>bif (c.2==0)then some (.inr ([],g))else bif ((f.length:Int)==60)then some (.inr ([],g))else (gd (f.length+[c.1].length)).bind fun _=>some (.inl (e,f++[c.1],w64 (g+c.2)))else some (.inr (f,(-1)))) (a,[],0)
def ZN:Fsp:=⟨160,[shF .str],[slF .token,shF .int],true,false,fun x=>wV x⟩
def iE(a:aJ)(b:Str):Option (Bool):=bif (a.kind==4)then some ((a.text==b))else some (false)
def aaf:Fsp:=⟨252,[shT .token,shF .str],[shF .bool],true,false,fun x=>iE x.1 x.2⟩
def yZ(a:aJ)(b:Str):Option (Bool):=bif (a.kind==1)then some ((a.text==b))else some (false)
def XG:Fsp:=⟨253,[shT .token,shF .str],[shF .bool],true,false,fun x=>yZ x.1 x.2⟩
def dW(a:GRd)(b:Str):Option (GRd×Bool):=bif (decide (a.bad<0))then bif (decide (a.i<(a.toks.length:Int)))then (idx a.toks a.i).bind fun c=>(iE c b).bind fun d=>bif d then some (a,true)else (idx a.toks a.i).bind fun e=>(yZ e b).bind fun f=>some (a,f)else some (a,false)else some (a,false)
def ac8:Fsp:=⟨200,[shT .rd,shF .str],[shT .rd,shF .bool],false,false,fun x=>dW x.1 x.2⟩
def BG(a:Str):Option (Bool):=au (fun (b:Str×Int)=>bif (decide (b.2<(b.1.length:Int)))then (idx b.1 b.2).bind fun d=>bif (decide ((d.toNat:Int)>=97))then (idx b.1 b.2).bind fun c=>(idx b.1 b.2).bind fun e=>bif (decide ((e.toNat:Int)>=48))then (idx b.1 b.2).bind fun f=>bif (!(decide ((c.toNat:Int)<=122)))then bif (b.2==0)then some (.inr (false))else bif (!(decide ((f.toNat:Int)<=57)))then some (.inr (false))else some (.inl (b.1,w64 (b.2+1)))else some (.inl (b.1,w64 (b.2+1)))else bif (!(decide ((c.toNat:Int)<=122)))then bif (b.2==0)then some (.inr (false))else some (.inr (false))else some (.inl (b.1,w64 (b.2+1)))else (idx b.1 b.2).bind fun g=>bif (decide ((g.toNat:Int)>=48))then (idx b.1 b.2).bind fun h=>bif (b.2==0)then some (.inr (false))else bif (!(decide ((h.toNat:Int)<=57)))then some (.inr (false))else some (.inl (b.1,w64 (b.2+1)))else bif (b.2==0)then some (.inr (false))else some (.inr (false))else some (.inr ((decide ((b.1.length:Int)>0))))) (a,0)
def acW:Fsp:=⟨169,[shF .str],[shF .bool],true,false,fun x=>BG x⟩
def kR(a:List Str)(b:Str):Option (Bool):=au (fun(⟨e,f,g⟩:(List Str)×Str×Int)=>bif (decide (g<(e.length:Int)))then (idx e g).bind fun d=>bif (d==f)then some (.inr (true))else some (.inl (e,f,w64 (g+1)))else some (.inr (false))) (a,b,0)
def aic:Fsp:=⟨120,[slF .str,shF .str],[shF .bool],true,false,fun x=>kR x.1 x.2⟩
def qJ:Option ((List Str)):=some (([[108,101,116],[105,110],[105,102],[116,104,101,110],[101,108,115,101],[102,111,114],[100,111],[108,101,110],[115,117,109],[116,97,107,101],[115,107,105,112],[114,97,110,103,101],[110,116,104],[119,104,101,114,101],[107,101,101,112],[97,100,100],[103,114,111,117,112],[106,111,105,110],[99,111,108,117,109,110],[114,111,119,115],[99,108,111,99,107],[99,104,97,110,99,101],[102,105,108,101],[116,97,98,108,101]]:List Str))
def TS:Fsp:=⟨214,[],[slF .str],true,false,fun x=>qJ⟩
def ku(a:Str):Option (Bool):=(qJ).bind fun b=>(kR b a).bind fun c=>some (c)
def Ua:Fsp:=⟨170,[shF .str],[shF .bool],true,false,fun x=>ku x⟩
def bM(a:Str):Option (Bool):=(BG a).bind fun b=>bif b then bif (decide ((a.length:Int)<=8))then (ku a).bind fun c=>some ((!c))else some (false)else some (false)
def P6:Fsp:=⟨125,[shF .str],[shF .bool],true,false,fun x=>bM x⟩
def iI(a:GRd):Option (GRd×af):=bif (decide (a.bad<0))then bif (decide (a.i<(a.toks.length:Int)))then (idx a.toks a.i).bind fun b=>some (GRd.mk a.toks a.i a.stop b.pos,af.mk 0 0 [] [])else some (GRd.mk a.toks a.i a.stop a.stop,af.mk 0 0 [] [])else some (a,af.mk 0 0 [] [])
def ada:Fsp:=⟨162,[shT .rd],[shT .rd,shT .expr],false,true,fun x=>iI x⟩
def BN(a:GRd):Option (GRd×Str):=bif (decide (a.bad>=0))then (iI a).bind fun b=>some (b.1,[])else bif (decide (a.i>=(a.toks.length:Int)))then (iI a).bind fun c=>some (c.1,[])else (idx a.toks a.i).bind fun d=>bif (d.kind != 1)then (iI a).bind fun e=>some (e.1,[])else (idx a.toks a.i).bind fun f=>(bM f.text).bind fun g=>bif (!g)then (iI a).bind fun h=>some (h.1,[])else (idx a.toks (w64 ((w64 (a.i+1))-1))).bind fun j=>some (GRd.mk a.toks (w64 (a.i+1)) a.stop a.bad,j.text)
def ac9:Fsp:=⟨201,[shT .rd],[shT .rd,shF .str],false,false,fun x=>BN x⟩
def eH(a:GRd)(b:Str):Option (GRd):=(dW a b).bind fun c=>bif (!c.2)then (iI c.1).bind fun d=>some (d.1)else some (GRd.mk c.1.toks (w64 (c.1.i+1)) c.1.stop c.1.bad)
def ac7:Fsp:=⟨202,[shT .rd,shF .str],[shT .rd],false,false,fun x=>eH x.1 x.2⟩
def kW(a:Int)(b:af)(c:af):Option (af):=some (af.mk 6 a [] [aj b,aj c])
def aij:Fsp:=⟨255,[shF .int,shT .expr,shT .expr],[shT .expr],false,true,fun x=>kW x.1 x.2.1 x.2.2⟩
def dP(a:Str):Option (Int):=bif (a==[99,108,111,99,107])then some (0)else bif (a==[108,101,110])then some (1)else bif (a==[115,117,109])then some (1)else bif (a==[114,111,119,115])then some (1)else bif (a==[99,104,97,110,99,101])then some (1)else bif (a==[102,105,108,101])then some (1)else bif (a==[116,97,107,101])then some (2)else bif (a==[115,107,105,112])then some (2)else bif (a==[114,97,110,103,101])then some (2)else bif (a==[110,116,104])then some (2)else bif (a==[107,101,101,112])then some (2)else bif (a==[99,111,108,117,109,110])then some (2)else bif (a==[116,97,98,108,101])then some (2)else bif (a==[119,104,101,114,101])then some (3)else bif (a==[103,114,111,117,112])then some (3)else bif (a==[106,111,105,110])then some (3)else bif (a==[97,100,100])then some (4)else some ((-1))
def J3:Fsp:=⟨283,[shF .str],[shF .int],true,false,fun x=>dP x⟩
def XF(a:Int):Option (af):=some (af.mk 1 a [] [])
def agk:Fsp:=⟨330,[shF .int],[shT .expr],true,false,fun x=>XF x⟩
def PV(a:Str):Option (af):=some (af.mk 3 0 a [])
def adh:Fsp:=⟨331,[shF .str],[shT .expr],true,false,fun x=>PV x⟩
def JX(rsL11Expr:GRd->Option (GRd×af))(rsL11Compare:GRd->Option (GRd×af))(rsL11Sum:GRd->Option (GRd×af))(rsL11Product:GRd->Option (GRd×af))(rsL11Atom:GRd->Option (GRd×af))(rsL11Args:GRd->Str->Option (GRd×(List af)))(a:GRd):Option (GRd×af):=(dW a [108,101,116]).bind fun c=>bif c.2 then (BN (GRd.mk c.1.toks (w64 (c.1.i+1)) c.1.stop c.1.bad)).bind fun o=>(eH o.1 [61]).bind fun s=>(rsL11Expr s).bind fun p=>(eH p.1 [105,110]).bind fun t=>(rsL11Expr t).bind fun q=>some (q.1,af.mk 7 0 o.2 [aj p.2,aj q.2])else (dW c.1 [105,102]).bind fun d=>bif d.2 then (rsL11Expr (GRd.mk d.1.toks (w64 (d.1.i+1)) d.1.stop d.1.bad)).bind fun r=>(eH r.1 [116,104,101,110]).bind fun u=>(rsL11Expr u).bind fun e=>(eH e.1 [101,108,115,101]).bind fun l=>(rsL11Expr l).bind fun f=>some (f.1,af.mk 8 0 [] [aj r.2,aj e.2,aj f.2])else (dW d.1 [102,111,114]).bind fun b=>bif b.2 then (BN (GRd.mk b.1.toks (w64 (b.1.i+1)) b.1.stop b.1.bad)).bind fun g=>(eH g.1 [105,110]).bind fun m=>(rsL11Expr m).bind fun h=>(eH h.1 [100,111]).bind fun n=>(rsL11Expr n).bind fun j=>some (j.1,af.mk 9 0 g.2 [aj h.2,aj j.2])else (rsL11Compare b.1).bind fun k=>some (k.1,aj k.2)
def rU(rsL11Expr:GRd->Option (GRd×af))(rsL11Compare:GRd->Option (GRd×af))(rsL11Sum:GRd->Option (GRd×af))(rsL11Product:GRd->Option (GRd×af))(rsL11Atom:GRd->Option (GRd×af))(rsL11Args:GRd->Str->Option (GRd×(List af)))(a:GRd):Option (GRd×af):=(rsL11Sum a).bind fun d=>(dW d.1 [60]).bind fun b=>bif b.2 then (rsL11Sum (GRd.mk b.1.toks (w64 (b.1.i+1)) b.1.stop b.1.bad)).bind fun e=>(kW 4 (aj d.2) (aj e.2)).bind fun g=>some (e.1,aj g)else (dW b.1 [61,61]).bind fun c=>bif c.2 then (rsL11Sum (GRd.mk c.1.toks (w64 (c.1.i+1)) c.1.stop c.1.bad)).bind fun f=>(kW 5 (aj d.2) (aj f.2)).bind fun h=>some (f.1,aj h)else some (c.1,aj d.2)
def PK(rsL11Expr:GRd->Option (GRd×af))(rsL11Compare:GRd->Option (GRd×af))(rsL11Sum:GRd->Option (GRd×af))(rsL11Product:GRd->Option (GRd×af))(rsL11Atom:GRd->Option (GRd×af))(rsL11Args:GRd->Str->Option (GRd×(List af)))(a:GRd):Option (GRd×af):=(rsL11Product a).bind fun j=>au (fun(⟨r,s,t,u,v,w,x,y,z,A,B,C⟩:(List aJ)×Int×Int×Int×Int×Int×Str×(List af)×Int×Int×Str×(List af))=>(dW (GRd.mk r s t u) [43]).bind fun p=>bif p.2 then (dW p.1 [45]).bind fun f=>bif f.2 then (rsL11Product (GRd.mk f.1.toks (w64 (f.1.i+1)) f.1.stop f.1.bad)).bind fun k=>(kW 2 (af.mk z A B C) (aj k.2)).bind fun m=>some (.inl (k.1.toks,k.1.i,k.1.stop,k.1.bad,v,w,x,y,m.kind,m.n,m.text,m.args))else (rsL11Product (GRd.mk f.1.toks (w64 (f.1.i+1)) f.1.stop f.1.bad)).bind fun l=>(kW 1 (af.mk z A B C) (aj l.2)).bind fun o=>some (.inl (l.1.toks,l.1.i,l.1.stop,l.1.bad,v,w,x,y,o.kind,o.n,o.text,o.args))else (dW p.1 [45]).bind fun q=>bif q.2 then (dW q.1 [45]).bind fun c=>bif c.2 then (rsL11Product (GRd.mk c.1.toks (w64 (c.1.i+1)) c.1.stop c.1.bad)).bind fun d=>(kW 2 (af.mk z A B C) (aj d.2)).bind fun g=>some (.inl (d.1.toks,d.1.i,d.1.stop,d.1.bad,v,w,x,y,g.kind,g.n,g.text,g.args))else (rsL11Product (GRd.mk c.1.toks (w64 (c.1.i+1)) c.1.stop c.1.bad)).bind fun e=>(kW 1 (af.mk z A B C) (aj e.2)).bind fun h=>some (.inl (e.1.toks,e.1.i,e.1.stop,e.1.bad,v,w,x,y,h.kind,h.n,h.text,h.args))else some (.inr (q.1,af.mk z A B C))) (j.1.toks,j.1.i,j.1.stop,j.1.bad,0,0,[],[],j.2.kind,j.2.n,j.2.text,j.2.args)
def yY(rsL11Expr:GRd->Option (GRd×af))(rsL11Compare:GRd->Option (GRd×af))(rsL11Sum:GRd->Option (GRd×af))(rsL11Product:GRd->Option (GRd×af))(rsL11Atom:GRd->Option (GRd×af))(rsL11Args:GRd->Str->Option (GRd×(List af)))(a:GRd):Option (GRd×af):=(rsL11Atom a).bind fun c=>au (fun(⟨g,h,j,k,l,m,o,p,q,r,s,t⟩:(List aJ)×Int×Int×Int×Int×Int×Str×(List af)×Int×Int×Str×(List af))=>(dW (GRd.mk g h j k) [42]).bind fun d=>bif d.2 then (rsL11Atom (GRd.mk d.1.toks (w64 (d.1.i+1)) d.1.stop d.1.bad)).bind fun e=>(kW 3 (af.mk q r s t) (aj e.2)).bind fun f=>some (.inl (e.1.toks,e.1.i,e.1.stop,e.1.bad,l,m,o,p,f.kind,f.n,f.text,f.args))else some (.inr (d.1,af.mk q r s t))) (c.1.toks,c.1.i,c.1.stop,c.1.bad,0,0,[],[],c.2.kind,c.2.n,c.2.text,c.2.args)
def D8(rsL11Expr:GRd->Option (GRd×af))(rsL11Compare:GRd->Option (GRd×af))(rsL11Sum:GRd->Option (GRd×af))(rsL11Product:GRd->Option (GRd×af))(rsL11Atom:GRd->Option (GRd×af))(rsL11Args:GRd->Str->Option (GRd×(List af)))(a:GRd):Option (GRd×af):=bif (decide (a.bad>=0))then (iI a).bind fun F=>some (F.1,aj F.2)else bif (decide (a.i>=(a.toks.length:Int)))then (iI a).bind fun G=>some (G.1,aj G.2)else (idx a.toks a.i).bind fun b=>bif (b.kind==2)then (XF b.n).bind fun I=>some (GRd.mk a.toks (w64 (a.i+1)) a.stop a.bad,aj I)else bif (b.kind==3)then some (GRd.mk a.toks (w64 (a.i+1)) a.stop a.bad,af.mk 2 0 b.text [])else bif (b.kind==1)then (bM b.text).bind fun J=>bif J then (PV b.text).bind fun K=>some (GRd.mk a.toks (w64 (a.i+1)) a.stop a.bad,aj K)else bif (b.kind==1)then (dP b.text).bind fun L=>bif (decide (L>=0))then (eH (GRd.mk a.toks (w64 (a.i+1)) a.stop a.bad) [40]).bind fun M=>(rsL11Args M [41]).bind fun H=>some (H.1,af.mk 5 0 b.text H.2)else (iE b [91]).bind fun r=>bif r then (rsL11Args (GRd.mk a.toks (w64 (a.i+1)) a.stop a.bad) [93]).bind fun c=>some (c.1,af.mk 4 0 [] c.2)else (iE b [40]).bind fun s=>bif s then (rsL11Expr (GRd.mk a.toks (w64 (a.i+1)) a.stop a.bad)).bind fun d=>(eH d.1 [41]).bind fun t=>some (t,aj d.2)else (iI a).bind fun e=>some (e.1,aj e.2)else (iE b [91]).bind fun u=>bif u then (rsL11Args (GRd.mk a.toks (w64 (a.i+1)) a.stop a.bad) [93]).bind fun f=>some (f.1,af.mk 4 0 [] f.2)else (iE b [40]).bind fun v=>bif v then (rsL11Expr (GRd.mk a.toks (w64 (a.i+1)) a.stop a.bad)).bind fun g=>(eH g.1 [41]).bind fun w=>some (w,aj g.2)else (iI a).bind fun h=>some (h.1,aj h.2)else bif (b.kind==1)then (dP b.text).bind fun x=>bif (decide (x>=0))then (eH (GRd.mk a.toks (w64 (a.i+1)) a.stop a.bad) [40]).bind fun y=>(rsL11Args y [41]).bind fun j=>some (j.1,af.mk 5 0 b.text j.2)else (iE b [91]).bind fun z=>bif z then (rsL11Args (GRd.mk a.toks (w64 (a.i+1)) a.stop a.bad) [93]).bind fun k=>some (k.1,af.mk 4 0 [] k.2)else (iE b [40]).bind fun A=>bif A then (rsL11Expr (GRd.mk a.toks (w64 (a.i+1)) a.stop a.bad)).bind fun l=>(eH l.1 [41]).bind fun B=>some (B,aj l.2)else (iI a).bind fun m=>some (m.1,aj m.2)else (iE b [91]).bind fun C=>bif C then (rsL11Args (GRd.mk a.toks (w64 (a.i+1)) a.stop a.bad) [93]).bind fun o=>some (o.1,af.mk 4 0 [] o.2)else (iE b [40]).bind fun D=>bif D then (rsL11Expr (GRd.mk a.toks (w64 (a.i+1)) a.stop a.bad)).bind fun p=>(eH p.1 [41]).bind fun E=>some (E,aj p.2)else (iI a).bind fun q=>some (q.1,aj q.2)
def xh(rsL11Expr:GRd->Option (GRd×af))(rsL11Compare:GRd->Option (GRd×af))(rsL11Sum:GRd->Option (GRd×af))(rsL11Product:GRd->Option (GRd×af))(rsL11Atom:GRd->Option (GRd×af))(rsL11Args:GRd->Str->Option (GRd×(List af)))(a:GRd)(b:Str):Option (GRd×(List af)):=(dW a b).bind fun d=>bif d.2 then some (GRd.mk d.1.toks (w64 (d.1.i+1)) d.1.stop d.1.bad,[])else au (fun(⟨j,k,l,m,n,o⟩:(List aJ)×Int×Int×Int×Str×(List af))=>bif (decide (m<0))then (rsL11Expr (GRd.mk j k l m)).bind fun f=>(gd (o.length+[aj f.2].length)).bind fun _=>(dW f.1 [44]).bind fun e=>bif (!e.2)then ((eH e.1 n).bind fun g=>some (g,o++[aj f.2])).bind fun r=>some (.inr r)else some (.inl (e.1.toks,w64 (e.1.i+1),e.1.stop,e.1.bad,n,o++[aj f.2]))else ((eH (GRd.mk j k l m) n).bind fun h=>some (h,o)).bind fun r=>some (.inr r)) (d.1.toks,d.1.i,d.1.stop,d.1.bad,b,[])
def aG:Nat->(GRd->Option (GRd×af))×(GRd->Option (GRd×af))×(GRd->Option (GRd×af))×(GRd->Option (GRd×af))×(GRd->Option (GRd×af))×(GRd->Str->Option (GRd×(List af)))
 | 0=>(fun _=>none,fun _=>none,fun _=>none,fun _=>none,fun _=>none,fun _ _=>none)
 | n+1=>(JX (aG n).1 (aG n).2.1 (aG n).2.2.1 (aG n).2.2.2.1 (aG n).2.2.2.2.1 (aG n).2.2.2.2.2,rU (aG n).1 (aG n).2.1 (aG n).2.2.1 (aG n).2.2.2.1 (aG n).2.2.2.2.1 (aG n).2.2.2.2.2,PK (aG n).1 (aG n).2.1 (aG n).2.2.1 (aG n).2.2.2.1 (aG n).2.2.2.2.1 (aG n).2.2.2.2.2,yY (aG n).1 (aG n).2.1 (aG n).2.2.1 (aG n).2.2.2.1 (aG n).2.2.2.2.1 (aG n).2.2.2.2.2,D8 (aG n).1 (aG n).2.1 (aG n).2.2.1 (aG n).2.2.2.1 (aG n).2.2.2.2.1 (aG n).2.2.2.2.2,xh (aG n).1 (aG n).2.1 (aG n).2.2.1 (aG n).2.2.2.1 (aG n).2.2.2.2.1 (aG n).2.2.2.2.2)
def PN(a:GRd):Option (GRd×af):=(aG (siz a+1)).1 a
def adb:Fsp:=⟨161,[shT .rd],[shT .rd,shT .expr],false,false,fun x=>PN x⟩
def Mc(n:Nat):Fsp:=⟨161,[shT .rd],[shT .rd,shT .expr],false,false,fun x=>(aG n).1 x⟩
def aac(a:GRd):Option (GRd×af):=(aG (siz a+1)).2.1 a
def TW:Fsp:=⟨203,[shT .rd],[shT .rd,shT .expr],false,false,fun x=>aac x⟩
def BO(n:Nat):Fsp:=⟨203,[shT .rd],[shT .rd,shT .expr],false,false,fun x=>(aG n).2.1 x⟩
def akK(a:GRd):Option (GRd×af):=(aG (siz a+1)).2.2.1 a
def agj:Fsp:=⟨254,[shT .rd],[shT .rd,shT .expr],false,false,fun x=>akK x⟩
def PI(n:Nat):Fsp:=⟨254,[shT .rd],[shT .rd,shT .expr],false,false,fun x=>(aG n).2.2.1 x⟩
def Z9(a:GRd):Option (GRd×af):=(aG (siz a+1)).2.2.2.1 a
def TV:Fsp:=⟨282,[shT .rd],[shT .rd,shT .expr],false,false,fun x=>Z9 x⟩
def BM(n:Nat):Fsp:=⟨282,[shT .rd],[shT .rd,shT .expr],false,false,fun x=>(aG n).2.2.2.1 x⟩
def aif(a:GRd):Option (GRd×af):=(aG (siz a+1)).2.2.2.2.1 a
def ade:Fsp:=⟨303,[shT .rd],[shT .rd,shT .expr],false,false,fun x=>aif x⟩
def Md(n:Nat):Fsp:=⟨303,[shT .rd],[shT .rd,shT .expr],false,false,fun x=>(aG n).2.2.2.2.1 x⟩
def aii(a:GRd)(b:Str):Option (GRd×(List af)):=(aG (siz a+1)).2.2.2.2.2 a b
def adf:Fsp:=⟨332,[shT .rd,shF .str],[shT .rd,slF .expr],false,false,fun x=>aii x.1 x.2⟩
def Me(n:Nat):Fsp:=⟨332,[shT .rd,shF .str],[shT .rd,slF .expr],false,false,fun x=>(aG n).2.2.2.2.2 x.1 x.2⟩
def JY(rsL10Left:af->Int->Option (Int))(a:af)(b:Int):Option (Int):=au (fun(⟨f,g,h,i,j,k⟩:Int×Int×Int×Str×(List af)×Int)=>bif (decide (k<(j.length:Int)))then bif (decide (f>=0))then (idx j k).bind fun d=>(rsL10Left (aj d) f).bind fun e=>some (.inl (e,g,h,i,j,w64 (k+1)))else some (.inr (f))else some (.inr (f))) (w64 (b-1),a.kind,a.n,a.text,a.args,0)
def xk:Nat->(af->Int->Option (Int))
 | 0=>fun _ _=>none
 | n+1=>JY (xk n)
def PX(a:af)(b:Int):Option (Int):=(xk (siz a+1)) a b
def adi:Fsp:=⟨204,[shT .expr,shF .int],[shF .int],true,false,fun x=>PX x.1 x.2⟩
def MB(n:Nat):Fsp:=⟨204,[shT .expr,shF .int],[shF .int],true,false,fun x=>(xk n) x.1 x.2⟩
def FY(a:Int)(b:Int):Option (Int):=bif (decide (a>b))then some (a)else some (b)
def aib:Fsp:=⟨126,[shF .int,shF .int],[shF .int],true,false,fun x=>FY x.1 x.2⟩
def qH(rsNestingOf:af->Option (Int))(a:af):Option (Int):=au (fun(⟨f,g,h,i,j,k⟩:Int×Int×Str×(List af)×Int×Int)=>bif (decide (k<(i.length:Int)))then (idx i k).bind fun c=>(rsNestingOf (aj c)).bind fun d=>(FY j d).bind fun e=>some (.inl (f,g,h,i,e,w64 (k+1)))else some (.inr (w64 (j+1)))) (a.kind,a.n,a.text,a.args,0,0)
def jY:Nat->(af->Option (Int))
 | 0=>fun _=>none
 | n+1=>qH (jY n)
def FX(a:af):Option (Int):=(jY (siz a+1)) a
def Xw:Fsp:=⟨205,[shT .expr],[shF .int],true,false,fun x=>FX x⟩
def EZ(n:Nat):Fsp:=⟨205,[shT .expr],[shF .int],true,false,fun x=>(jY n) x⟩
def rH(a:Int)(b:Int)(c:Int):Option (Bool):=bif (decide (a>=b))then some ((decide (a<=c)))else some (false)
def akJ:Fsp:=⟨75,[shF .int,shF .int,shF .int],[shF .bool],true,false,fun x=>rH x.1 x.2.1 x.2.2⟩
def oL(a:af):Option (Bool):=bif (a.kind==1)then bif ((a.args.length:Int)==0)then bif (a.text==[])then (rH a.n 0 1000000000).bind fun b=>some (b)else some (false)else some (false)else bif (a.kind==2)then bif ((a.args.length:Int)==0)then bif (a.n==0)then (fV a.text).bind fun c=>some (c)else some (false)else some (false)else bif (a.kind==3)then bif ((a.args.length:Int)==0)then bif (a.n==0)then (bM a.text).bind fun d=>some (d)else some (false)else some (false)else bif (a.kind==4)then bif (a.n==0)then bif (a.text==[])then some ((decide ((a.args.length:Int)<=8)))else some (false)else some (false)else bif (a.kind==5)then bif (a.n==0)then (dP a.text).bind fun e=>some (((a.args.length:Int)==e))else some (false)else bif (a.kind==6)then bif (a.text==[])then bif ((a.args.length:Int)==2)then (rH a.n 1 5).bind fun f=>some (f)else some (false)else some (false)else bif (a.kind==7)then bif (a.n==0)then bif ((a.args.length:Int)==2)then (bM a.text).bind fun g=>some (g)else some (false)else some (false)else bif (a.kind==9)then bif (a.n==0)then bif ((a.args.length:Int)==2)then (bM a.text).bind fun h=>some (h)else some (false)else some (false)else bif (a.kind==8)then bif (a.n==0)then bif (a.text==[])then some (((a.args.length:Int)==3))else some (false)else some (false)else some (false)
def adg:Fsp:=⟨256,[shT .expr],[shF .bool],true,false,fun x=>oL x⟩
def BQ(rsL10All:af->Option (Bool))(a:af):Option (Bool):=au (fun(⟨f,g,h,i,j⟩:Int×Int×Str×(List af)×Int)=>bif (decide (j<(i.length:Int)))then (idx i j).bind fun c=>(rsL10All (aj c)).bind fun d=>bif (!d)then some (.inr (false))else some (.inl (f,g,h,i,w64 (j+1)))else ((oL (af.mk f g h i)).bind fun e=>some (e)).bind fun r=>some (.inr r)) (a.kind,a.n,a.text,a.args,0)
def qL:Nat->(af->Option (Bool))
 | 0=>fun _=>none
 | n+1=>BQ (qL n)
def Ol(a:af):Option (Bool):=(qL (siz a+1)) a
def agl:Fsp:=⟨206,[shT .expr],[shF .bool],true,false,fun x=>Ol x⟩
def PZ(n:Nat):Fsp:=⟨206,[shT .expr],[shF .bool],true,false,fun x=>(qL n) x⟩
def iK(a:af):Option (Bool):=(PX (aj a) 40).bind fun b=>bif (decide (b>=0))then (FX (aj a)).bind fun c=>bif (decide (c<=8))then (Ol (aj a)).bind fun d=>some (d)else some (false)else some (false)
def P7:Fsp:=⟨163,[shT .expr],[shF .bool],true,false,fun x=>iK x⟩
def pq(a:Str):Option (af×Int):=(wV a).bind fun c=>bif (decide (c.2>=0))then some (af.mk 0 0 [] [],c.2)else (PN (GRd.mk c.1 0 (a.length:Int) (-1))).bind fun b=>bif (decide (b.1.bad<0))then bif (decide (b.1.i<(c.1.length:Int)))then (iI b.1).bind fun d=>bif (decide (d.1.bad>=0))then some (af.mk 0 0 [] [],d.1.bad)else (iK (aj b.2)).bind fun e=>bif (!e)then some (af.mk 0 0 [] [],0)else some (aj b.2,(-1))else bif (decide (b.1.bad>=0))then some (af.mk 0 0 [] [],b.1.bad)else (iK (aj b.2)).bind fun f=>bif (!f)then some (af.mk 0 0 [] [],0)else some (aj b.2,(-1))else bif (decide (b.1.bad>=0))then some (af.mk 0 0 [] [],b.1.bad)else (iK (aj b.2)).bind fun g=>bif (!g)then some (af.mk 0 0 [] [],0)else some (aj b.2,(-1))
def Xu:Fsp:=⟨119,[shF .str],[shT .expr,shF .int],false,false,fun x=>pq x⟩
def uh(a:List Str):Option ((List Str)):=au (fun(⟨w,x,y⟩:(List Str)×(List Str)×Int)=>bif (decide (y<(w.length:Int)))then au (fun(⟨n,z,A,B⟩:(List Str)×(List Str)×Int×Int)=>bif (decide (B<(z.length:Int)))then (idx z B).bind fun _=>(z[B.toNat]?).bind fun s=>(idx n A).bind fun t=>bif (Op.bytesLess s t)then some (.inl (n,z,A,w64 (B+1)))else (bif (decide (B<(z.length:Int)))then (idx z B).bind fun _=>(z[B.toNat]?).bind fun u=>(idx n A).bind fun v=>bif (u==v)then some (.inl (n,z,w64 (A+1)))else (cutAt z B).bind fun o=>(gd (0+(z.drop o).length)).bind fun _=>(cutAt z B).bind fun c=>(idx n A).bind fun d=>(gd ((z.take c).length+([d]:List Str).length)).bind fun _=>(gd (((z.take c)++([d]:List Str)).length+([]++(z.drop o)).length)).bind fun _=>some (.inl (n,((z.take c)++([d]:List Str))++([]++(z.drop o)),w64 (A+1)))else (cutAt z B).bind fun e=>(gd (0+(z.drop e).length)).bind fun _=>(cutAt z B).bind fun f=>(idx n A).bind fun g=>(gd ((z.take f).length+([g]:List Str).length)).bind fun _=>(gd (((z.take f)++([g]:List Str)).length+([]++(z.drop e)).length)).bind fun _=>some (.inl (n,((z.take f)++([g]:List Str))++([]++(z.drop e)),w64 (A+1)))).bind fun r=>some (.inr r)else (bif (decide (B<(z.length:Int)))then (idx z B).bind fun _=>(z[B.toNat]?).bind fun p=>(idx n A).bind fun q=>bif (p==q)then some (.inl (n,z,w64 (A+1)))else (cutAt z B).bind fun h=>(gd (0+(z.drop h).length)).bind fun _=>(cutAt z B).bind fun i=>(idx n A).bind fun j=>(gd ((z.take i).length+([j]:List Str).length)).bind fun _=>(gd (((z.take i)++([j]:List Str)).length+([]++(z.drop h)).length)).bind fun _=>some (.inl (n,((z.take i)++([j]:List Str))++([]++(z.drop h)),w64 (A+1)))else (cutAt z B).bind fun k=>(gd (0+(z.drop k).length)).bind fun _=>(cutAt z B).bind fun l=>(idx n A).bind fun m=>(gd ((z.take l).length+([m]:List Str).length)).bind fun _=>(gd (((z.take l)++([m]:List Str)).length+([]++(z.drop k)).length)).bind fun _=>some (.inl (n,((z.take l)++([m]:List Str))++([]++(z.drop k)),w64 (A+1)))).bind fun r=>some (.inr r)) (w,x,y,0)else some (.inr (x))) (a,[],0)
def Xq:Fsp:=⟨164,[slF .str],[slF .str],true,false,fun x=>uh x⟩
def L6(rsL13Free:af->(List Str)->Option ((List Str))):((List Str)×Int×Int×Str×(List af)×(List Str)×Int)->Option (((List Str)×Int×Int×Str×(List af)×(List Str)×Int)⊕((List Str))):=
(fun (x2:(List Str)×Int×Int×Str×(List af)×(List Str)×Int)=>
   bif (decide (x2.2.2.2.2.2.2<(x2.2.2.2.2.1.length:Int)))then
    bif (x2.2.1==7)then
     bif (decide (x2.2.2.2.2.2.2>0))then
      (gd (0+x2.1.length)).bind fun _=>
      (gd (([]++x2.1).length+([x2.2.2.2.1]:List Str).length)).bind fun _=>
      (idx x2.2.2.2.2.1 x2.2.2.2.2.2.2).bind fun e3=>
      (rsL13Free (aj e3) (([]++x2.1)++([x2.2.2.2.1]:List Str))).bind fun r4=>
      (gd (x2.2.2.2.2.2.1.length+r4.length)).bind fun _=>
      some (.inl (x2.1,x2.2.1,x2.2.2.1,x2.2.2.2.1,x2.2.2.2.2.1,x2.2.2.2.2.2.1++r4,w64 (x2.2.2.2.2.2.2+1)))
     else
      (idx x2.2.2.2.2.1 x2.2.2.2.2.2.2).bind fun e5=>
      (rsL13Free (aj e5) x2.1).bind fun r6=>
      (gd (x2.2.2.2.2.2.1.length+r6.length)).bind fun _=>
      some (.inl (x2.1,x2.2.1,x2.2.2.1,x2.2.2.2.1,x2.2.2.2.2.1,x2.2.2.2.2.2.1++r6,w64 (x2.2.2.2.2.2.2+1)))
    else
    bif (x2.2.1==9)then
     bif (decide (x2.2.2.2.2.2.2>0))then
      (gd (0+x2.1.length)).bind fun _=>
      (gd (([]++x2.1).length+([x2.2.2.2.1]:List Str).length)).bind fun _=>
      (idx x2.2.2.2.2.1 x2.2.2.2.2.2.2).bind fun e7=>
      (rsL13Free (aj e7) (([]++x2.1)++([x2.2.2.2.1]:List Str))).bind fun r8=>
      (gd (x2.2.2.2.2.2.1.length+r8.length)).bind fun _=>
      some (.inl (x2.1,x2.2.1,x2.2.2.1,x2.2.2.2.1,x2.2.2.2.2.1,x2.2.2.2.2.2.1++r8,w64 (x2.2.2.2.2.2.2+1)))
     else
      (idx x2.2.2.2.2.1 x2.2.2.2.2.2.2).bind fun e9=>
      (rsL13Free (aj e9) x2.1).bind fun r10=>
      (gd (x2.2.2.2.2.2.1.length+r10.length)).bind fun _=>
      some (.inl (x2.1,x2.2.1,x2.2.2.1,x2.2.2.2.1,x2.2.2.2.2.1,x2.2.2.2.2.2.1++r10,w64 (x2.2.2.2.2.2.2+1)))
    else
     (idx x2.2.2.2.2.1 x2.2.2.2.2.2.2).bind fun e11=>
     (rsL13Free (aj e11) x2.1).bind fun r12=>
     (gd (x2.2.2.2.2.2.1.length+r12.length)).bind fun _=>
     some (.inl (x2.1,x2.2.1,x2.2.2.1,x2.2.2.2.1,x2.2.2.2.2.1,x2.2.2.2.2.2.1++r12,w64 (x2.2.2.2.2.2.2+1)))
   else
    some (.inr (x2.2.2.2.2.2.1))
 )
def JS(rsL13Free:af->(List Str)->Option ((List Str)))(a:af)(b:List Str):Option ((List Str)):=bif (a.kind==3)then (kR b a.text).bind fun c=>bif (!c)then (gd (0+([a.text]:List Str).length)).bind fun _=>some ([]++([a.text]:List Str))else au (L6 rsL13Free) (b,a.kind,a.n,a.text,a.args,[],0)else au (L6 rsL13Free) (b,a.kind,a.n,a.text,a.args,[],0)
def pI:Nat->(af->(List Str)->Option ((List Str)))
 | 0=>fun _ _=>none
 | n+1=>JS (pI n)
def Pz(a:af)(b:List Str):Option ((List Str)):=(pI (siz a+siz b+1)) a b
def ac4:Fsp:=⟨165,[shT .expr,slF .str],[slF .str],true,false,fun x=>Pz x.1 x.2⟩
def LZ(n:Nat):Fsp:=⟨165,[shT .expr,slF .str],[slF .str],true,false,fun x=>(pI n) x.1 x.2⟩
def um(a:af):Option ((List Str)):=(Pz (aj a) []).bind fun b=>(uh b).bind fun c=>some (c)
def XH:Fsp:=⟨121,[shT .expr],[slF .str],true,false,fun x=>um x⟩
def Fa(rsL13Caught:af->Str->Str->(List Str)->Option (Bool)):(Str×Str×(List Str)×Int×Int×Str×(List af)×Int)->Option ((Str×Str×(List Str)×Int×Int×Str×(List af)×Int)⊕(Bool)):=
(fun (x3:Str×Str×(List Str)×Int×Int×Str×(List af)×Int)=>
   bif (decide (x3.2.2.2.2.2.2.2<(x3.2.2.2.2.2.2.1.length:Int)))then
    bif (x3.2.2.2.1==7)then
     bif (decide (x3.2.2.2.2.2.2.2>0))then
      (gd (0+x3.2.2.1.length)).bind fun _=>
      (gd (([]++x3.2.2.1).length+([x3.2.2.2.2.2.1]:List Str).length)).bind fun _=>
      (idx x3.2.2.2.2.2.2.1 x3.2.2.2.2.2.2.2).bind fun e4=>
      (rsL13Caught (aj e4) x3.1 x3.2.1 (([]++x3.2.2.1)++([x3.2.2.2.2.2.1]:List Str))).bind fun r5=>
      bif r5 then
       some (.inr (true))
      else
       some (.inl (x3.1,x3.2.1,x3.2.2.1,x3.2.2.2.1,x3.2.2.2.2.1,x3.2.2.2.2.2.1,x3.2.2.2.2.2.2.1,w64 (x3.2.2.2.2.2.2.2+1)))
     else
      (idx x3.2.2.2.2.2.2.1 x3.2.2.2.2.2.2.2).bind fun e6=>
      (rsL13Caught (aj e6) x3.1 x3.2.1 x3.2.2.1).bind fun r7=>
      bif r7 then
       some (.inr (true))
      else
       some (.inl (x3.1,x3.2.1,x3.2.2.1,x3.2.2.2.1,x3.2.2.2.2.1,x3.2.2.2.2.2.1,x3.2.2.2.2.2.2.1,w64 (x3.2.2.2.2.2.2.2+1)))
    else
    bif (x3.2.2.2.1==9)then
     bif (decide (x3.2.2.2.2.2.2.2>0))then
      (gd (0+x3.2.2.1.length)).bind fun _=>
      (gd (([]++x3.2.2.1).length+([x3.2.2.2.2.2.1]:List Str).length)).bind fun _=>
      (idx x3.2.2.2.2.2.2.1 x3.2.2.2.2.2.2.2).bind fun e8=>
      (rsL13Caught (aj e8) x3.1 x3.2.1 (([]++x3.2.2.1)++([x3.2.2.2.2.2.1]:List Str))).bind fun r9=>
      bif r9 then
       some (.inr (true))
      else
       some (.inl (x3.1,x3.2.1,x3.2.2.1,x3.2.2.2.1,x3.2.2.2.2.1,x3.2.2.2.2.2.1,x3.2.2.2.2.2.2.1,w64 (x3.2.2.2.2.2.2.2+1)))
     else
      (idx x3.2.2.2.2.2.2.1 x3.2.2.2.2.2.2.2).bind fun e10=>
      (rsL13Caught (aj e10) x3.1 x3.2.1 x3.2.2.1).bind fun r11=>
      bif r11 then
       some (.inr (true))
      else
       some (.inl (x3.1,x3.2.1,x3.2.2.1,x3.2.2.2.1,x3.2.2.2.2.1,x3.2.2.2.2.2.1,x3.2.2.2.2.2.2.1,w64 (x3.2.2.2.2.2.2.2+1)))
    else
     (idx x3.2.2.2.2.2.2.1 x3.2.2.2.2.2.2.2).bind fun e12=>
     (rsL13Caught (aj e12) x3.1 x3.2.1 x3.2.2.1).bind fun r13=>
     bif r13 then
      some (.inr (true))
     else
      some (.inl (x3.1,x3.2.1,x3.2.2.1,x3.2.2.2.1,x3.2.2.2.2.1,x3.2.2.2.2.2.1,x3.2.2.2.2.2.2.1,w64 (x3.2.2.2.2.2.2.2+1)))
   else
    some (.inr (false))
 )
def BL(rsL13Caught:af->Str->Str->(List Str)->Option (Bool))(a:af)(b:Str)(c:Str)(d:List Str):Option (Bool):=bif (a.kind==3)then (kR d a.text).bind fun e=>bif (!e)then bif (a.text==b)then (kR d c).bind fun f=>some (f)else some (false)else au (Fa rsL13Caught) (b,c,d,a.kind,a.n,a.text,a.args,0)else au (Fa rsL13Caught) (b,c,d,a.kind,a.n,a.text,a.args,0)
def jZ:Nat->(af->Str->Str->(List Str)->Option (Bool))
 | 0=>fun _ _ _ _=>none
 | n+1=>BL (jZ n)
def F5(a:af)(b:Str)(c:Str)(d:List Str):Option (Bool):=(jZ (siz a+siz d+1)) a b c d
def XC:Fsp:=⟨207,[shT .expr,shF .str,shF .str,slF .str],[shF .bool],true,false,fun x=>F5 x.1 x.2.1 x.2.2.1 x.2.2.2⟩
def E8(n:Nat):Fsp:=⟨207,[shT .expr,shF .str,shF .str,slF .str],[shF .bool],true,false,fun x=>(jZ n) x.1 x.2.1 x.2.2.1 x.2.2.2⟩
def kX(a:af)(b:Str)(c:Str):Option (Bool):=(F5 (aj a) b c []).bind fun d=>some (d)
def Ub:Fsp:=⟨166,[shT .expr,shF .str,shF .str],[shF .bool],true,false,fun x=>kX x.1 x.2.1 x.2.2⟩
def JZ(rsL10Copy:af->Option (af))(a:af):Option (af):=au (fun(⟨e,f,g,h,i,j,k,l,m,o,p,q,r⟩:Int×Int×Str×(List af)×Int×Int×Str×(List af)×Int×Int×Str×(List af)×Int)=>bif (decide (r<(h.length:Int)))then (idx h r).bind fun d=>(rsL10Copy (aj d)).bind fun c=>(gd (q.length+[aj c].length)).bind fun _=>some (.inl (e,f,g,h,i,j,k,l,m,o,p,q++[aj c],w64 (r+1)))else some (.inr (af.mk m o p q))) (a.kind,a.n,a.text,a.args,0,0,[],[],a.kind,a.n,a.text,[],0)
def xq:Nat->(af->Option (af))
 | 0=>fun _=>none
 | n+1=>JZ (xq n)
def xu(a:af):Option (af):=(xq (siz a+1)) a
def adk:Fsp:=⟨208,[shT .expr],[shT .expr],true,false,fun x=>xu x⟩
def MC(n:Nat):Fsp:=⟨208,[shT .expr],[shT .expr],true,false,fun x=>(xq n) x⟩
def wF(rsL13Rename:af->Str->Str->Option (af)):(Str×Str×Int×Int×Str×(List af)×Int×Int×Str×(List af)×Int×Int×Str×(List af)×Int)->Option ((Str×Str×Int×Int×Str×(List af)×Int×Int×Str×(List af)×Int×Int×Str×(List af)×Int)⊕(af)):=
(fun (x1:Str×Str×Int×Int×Str×(List af)×Int×Int×Str×(List af)×Int×Int×Str×(List af)×Int)=>
  bif (decide (x1.2.2.2.2.2.2.2.2.2.2.2.2.2.2<(x1.2.2.2.2.2.1.length:Int)))then
   bif (x1.2.2.1==7)then
    bif (x1.2.2.2.2.2.2.2.2.2.2.2.2.2.2==1)then
     bif (x1.2.2.2.2.1==x1.1)then
      (idx x1.2.2.2.2.2.1 x1.2.2.2.2.2.2.2.2.2.2.2.2.2.2).bind fun e2=>
      (xu (aj e2)).bind fun r3=>
      (gd (x1.2.2.2.2.2.2.2.2.2.2.2.2.2.1.length+[aj r3].length)).bind fun _=>
      some (.inl (x1.1,x1.2.1,x1.2.2.1,x1.2.2.2.1,x1.2.2.2.2.1,x1.2.2.2.2.2.1,x1.2.2.2.2.2.2.1,x1.2.2.2.2.2.2.2.1,x1.2.2.2.2.2.2.2.2.1,x1.2.2.2.2.2.2.2.2.2.1,x1.2.2.2.2.2.2.2.2.2.2.1,x1.2.2.2.2.2.2.2.2.2.2.2.1,x1.2.2.2.2.2.2.2.2.2.2.2.2.1,x1.2.2.2.2.2.2.2.2.2.2.2.2.2.1++[aj r3],w64 (x1.2.2.2.2.2.2.2.2.2.2.2.2.2.2+1)))
     else
      (idx x1.2.2.2.2.2.1 x1.2.2.2.2.2.2.2.2.2.2.2.2.2.2).bind fun e4=>
      (rsL13Rename (aj e4) x1.1 x1.2.1).bind fun r5=>
      (gd (x1.2.2.2.2.2.2.2.2.2.2.2.2.2.1.length+[aj r5].length)).bind fun _=>
      some (.inl (x1.1,x1.2.1,x1.2.2.1,x1.2.2.2.1,x1.2.2.2.2.1,x1.2.2.2.2.2.1,x1.2.2.2.2.2.2.1,x1.2.2.2.2.2.2.2.1,x1.2.2.2.2.2.2.2.2.1,x1.2.2.2.2.2.2.2.2.2.1,x1.2.2.2.2.2.2.2.2.2.2.1,x1.2.2.2.2.2.2.2.2.2.2.2.1,x1.2.2.2.2.2.2.2.2.2.2.2.2.1,x1.2.2.2.2.2.2.2.2.2.2.2.2.2.1++[aj r5],w64 (x1.2.2.2.2.2.2.2.2.2.2.2.2.2.2+1)))
    else
     (idx x1.2.2.2.2.2.1 x1.2.2.2.2.2.2.2.2.2.2.2.2.2.2).bind fun e6=>
     (rsL13Rename (aj e6) x1.1 x1.2.1).bind fun r7=>
     (gd (x1.2.2.2.2.2.2.2.2.2.2.2.2.2.1.length+[aj r7].length)).bind fun _=>
     some (.inl (x1.1,x1.2.1,x1.2.2.1,x1.2.2.2.1,x1.2.2.2.2.1,x1.2.2.2.2.2.1,x1.2.2.2.2.2.2.1,x1.2.2.2.2.2.2.2.1,x1.2.2.2.2.2.2.2.2.1,x1.2.2.2.2.2.2.2.2.2.1,x1.2.2.2.2.2.2.2.2.2.2.1,x1.2.2.2.2.2.2.2.2.2.2.2.1,x1.2.2.2.2.2.2.2.2.2.2.2.2.1,x1.2.2.2.2.2.2.2.2.2.2.2.2.2.1++[aj r7],w64 (x1.2.2.2.2.2.2.2.2.2.2.2.2.2.2+1)))
   else
   bif (x1.2.2.1==9)then
    bif (x1.2.2.2.2.2.2.2.2.2.2.2.2.2.2==1)then
     bif (x1.2.2.2.2.1==x1.1)then
      (idx x1.2.2.2.2.2.1 x1.2.2.2.2.2.2.2.2.2.2.2.2.2.2).bind fun e8=>
      (xu (aj e8)).bind fun r9=>
      (gd (x1.2.2.2.2.2.2.2.2.2.2.2.2.2.1.length+[aj r9].length)).bind fun _=>
      some (.inl (x1.1,x1.2.1,x1.2.2.1,x1.2.2.2.1,x1.2.2.2.2.1,x1.2.2.2.2.2.1,x1.2.2.2.2.2.2.1,x1.2.2.2.2.2.2.2.1,x1.2.2.2.2.2.2.2.2.1,x1.2.2.2.2.2.2.2.2.2.1,x1.2.2.2.2.2.2.2.2.2.2.1,x1.2.2.2.2.2.2.2.2.2.2.2.1,x1.2.2.2.2.2.2.2.2.2.2.2.2.1,x1.2.2.2.2.2.2.2.2.2.2.2.2.2.1++[aj r9],w64 (x1.2.2.2.2.2.2.2.2.2.2.2.2.2.2+1)))
     else
      (idx x1.2.2.2.2.2.1 x1.2.2.2.2.2.2.2.2.2.2.2.2.2.2).bind fun e10=>
      (rsL13Rename (aj e10) x1.1 x1.2.1).bind fun r11=>
      (gd (x1.2.2.2.2.2.2.2.2.2.2.2.2.2.1.length+[aj r11].length)).bind fun _=>
      some (.inl (x1.1,x1.2.1,x1.2.2.1,x1.2.2.2.1,x1.2.2.2.2.1,x1.2.2.2.2.2.1,x1.2.2.2.2.2.2.1,x1.2.2.2.2.2.2.2.1,x1.2.2.2.2.2.2.2.2.1,x1.2.2.2.2.2.2.2.2.2.1,x1.2.2.2.2.2.2.2.2.2.2.1,x1.2.2.2.2.2.2.2.2.2.2.2.1,x1.2.2.2.2.2.2.2.2.2.2.2.2.1,x1.2.2.2.2.2.2.2.2.2.2.2.2.2.1++[aj r11],w64 (x1.2.2.2.2.2.2.2.2.2.2.2.2.2.2+1)))
    else
     (idx x1.2.2.2.2.2.1 x1.2.2.2.2.2.2.2.2.2.2.2.2.2.2).bind fun e12=>
     (rsL13Rename (aj e12) x1.1 x1.2.1).bind fun r13=>
     (gd (x1.2.2.2.2.2.2.2.2.2.2.2.2.2.1.length+[aj r13].length)).bind fun _=>
     some (.inl (x1.1,x1.2.1,x1.2.2.1,x1.2.2.2.1,x1.2.2.2.2.1,x1.2.2.2.2.2.1,x1.2.2.2.2.2.2.1,x1.2.2.2.2.2.2.2.1,x1.2.2.2.2.2.2.2.2.1,x1.2.2.2.2.2.2.2.2.2.1,x1.2.2.2.2.2.2.2.2.2.2.1,x1.2.2.2.2.2.2.2.2.2.2.2.1,x1.2.2.2.2.2.2.2.2.2.2.2.2.1,x1.2.2.2.2.2.2.2.2.2.2.2.2.2.1++[aj r13],w64 (x1.2.2.2.2.2.2.2.2.2.2.2.2.2.2+1)))
   else
    (idx x1.2.2.2.2.2.1 x1.2.2.2.2.2.2.2.2.2.2.2.2.2.2).bind fun e14=>
    (rsL13Rename (aj e14) x1.1 x1.2.1).bind fun r15=>
    (gd (x1.2.2.2.2.2.2.2.2.2.2.2.2.2.1.length+[aj r15].length)).bind fun _=>
    some (.inl (x1.1,x1.2.1,x1.2.2.1,x1.2.2.2.1,x1.2.2.2.2.1,x1.2.2.2.2.2.1,x1.2.2.2.2.2.2.1,x1.2.2.2.2.2.2.2.1,x1.2.2.2.2.2.2.2.2.1,x1.2.2.2.2.2.2.2.2.2.1,x1.2.2.2.2.2.2.2.2.2.2.1,x1.2.2.2.2.2.2.2.2.2.2.2.1,x1.2.2.2.2.2.2.2.2.2.2.2.2.1,x1.2.2.2.2.2.2.2.2.2.2.2.2.2.1++[aj r15],w64 (x1.2.2.2.2.2.2.2.2.2.2.2.2.2.2+1)))
  else
   some (.inr (af.mk x1.2.2.2.2.2.2.2.2.2.2.1 x1.2.2.2.2.2.2.2.2.2.2.2.1 x1.2.2.2.2.2.2.2.2.2.2.2.2.1 x1.2.2.2.2.2.2.2.2.2.2.2.2.2.1))
 )
def vI(rsL13Rename:af->Str->Str->Option (af))(a:af)(b:Str)(c:Str):Option (af):=bif (a.kind==3)then bif (a.text==b)then au (wF rsL13Rename) (b,c,a.kind,a.n,a.text,a.args,0,0,[],[],a.kind,a.n,c,[],0)else au (wF rsL13Rename) (b,c,a.kind,a.n,a.text,a.args,0,0,[],[],a.kind,a.n,a.text,[],0)else au (wF rsL13Rename) (b,c,a.kind,a.n,a.text,a.args,0,0,[],[],a.kind,a.n,a.text,[],0)
def qK:Nat->(af->Str->Str->Option (af))
 | 0=>fun _ _ _=>none
 | n+1=>vI (qK n)
def FZ(a:af)(b:Str)(c:Str):Option (af):=(qK (siz a+1)) a b c
def XB:Fsp:=⟨167,[shT .expr,shF .str,shF .str],[shT .expr],true,false,fun x=>FZ x.1 x.2.1 x.2.2⟩
def E5(n:Nat):Fsp:=⟨167,[shT .expr,shF .str,shF .str],[shT .expr],true,false,fun x=>(qK n) x.1 x.2.1 x.2.2⟩
def jX(a:af)(b:Str)(c:Str):Option (af×Bool):=(iK (aj a)).bind fun d=>bif (!d)then some (af.mk 0 0 [] [],false)else (bM b).bind fun e=>bif (!e)then some (af.mk 0 0 [] [],false)else (bM c).bind fun f=>bif (!f)then some (af.mk 0 0 [] [],false)else (kX (aj a) b c).bind fun g=>bif g then some (af.mk 0 0 [] [],false)else (FZ (aj a) b c).bind fun h=>some (aj h,true)
def TP:Fsp:=⟨122,[shT .expr,shF .str,shF .str],[shT .expr,shF .bool],true,false,fun x=>jX x.1 x.2.1 x.2.2⟩
def aae(a:List Str)(b:Str):Option (Str):=au (fun(⟨f,g,h,i⟩:(List Str)×Str×(List Int)×Int)=>bif (decide (i<(f.length:Int)))then bif (decide (i>0))then (gd (h.length+(mD g).length)).bind fun _=>(idx f i).bind fun d=>(gd ((h++(mD g)).length+(mD d).length)).bind fun _=>some (.inl (f,g,(h++(mD g))++(mD d),w64 (i+1)))else (idx f i).bind fun e=>(gd (h.length+(mD e).length)).bind fun _=>some (.inl (f,g,h++(mD e),w64 (i+1)))else some (.inr (bytesOf h))) (a,b,[],0)
def akM:Fsp:=⟨257,[slF .str,shF .str],[shF .str],true,false,fun x=>aae x.1 x.2⟩
def wW(a:af):Option (Int):=bif (a.kind==7)then some (0)else bif (a.kind==8)then some (0)else bif (a.kind==9)then some (0)else bif (a.kind==6)then bif (a.n==4)then some (1)else bif (a.n==5)then some (1)else bif (a.n==1)then some (2)else bif (a.n==2)then some (2)else bif (a.n==3)then some (3)else some (4)else some (4)
def acP:Fsp:=⟨211,[shT .expr],[shF .int],true,false,fun x=>wW x⟩
def DY(a:Int):Option (Str):=(rH a 1 5).bind fun b=>bif (!b)then some ([63])else (idx ([[],[43],[45],[42],[60],[61,61]]:List Str) a).bind fun _=>(([[],[43],[45],[42],[60],[61,61]]:List Str)[a.toNat]?).bind fun c=>some (c)
def ZR:Fsp:=⟨213,[shF .int],[shF .str],true,false,fun x=>DY x⟩
def JV(rsL12Text:af->Option (Str))(rsL12List:(List af)->Option (Str))(rsL12At:af->Int->Option (Str))(a:af):Option (Str):=bif (a.kind==1)then (fZ a.n).bind fun A=>some (A)else bif (a.kind==2)then (gd ([34].length+a.text.length)).bind fun _=>(gd (([34]++a.text).length+[34].length)).bind fun _=>some (([34]++a.text)++[34])else bif (a.kind==3)then some (a.text)else bif (a.kind==4)then (rsL12List a.args).bind fun p=>(gd ([91].length+p.length)).bind fun _=>(gd (([91]++p).length+[93].length)).bind fun _=>some (([91]++p)++[93])else bif (a.kind==5)then (gd (a.text.length+[40].length)).bind fun _=>(rsL12List a.args).bind fun q=>(gd ((a.text++[40]).length+q.length)).bind fun _=>(gd (((a.text++[40])++q).length+[41].length)).bind fun _=>some (((a.text++[40])++q)++[41])else bif (a.kind==7)then (gd ([108,101,116,32].length+a.text.length)).bind fun _=>(gd (([108,101,116,32]++a.text).length+[32,61,32].length)).bind fun _=>(idx a.args 0).bind fun B=>(rsL12Text (aj B)).bind fun m=>(gd ((([108,101,116,32]++a.text)++[32,61,32]).length+m.length)).bind fun _=>(gd (((([108,101,116,32]++a.text)++[32,61,32])++m).length+[32,105,110,32].length)).bind fun _=>(idx a.args 1).bind fun C=>(rsL12Text (aj C)).bind fun z=>(gd ((((([108,101,116,32]++a.text)++[32,61,32])++m)++[32,105,110,32]).length+z.length)).bind fun _=>some ((((([108,101,116,32]++a.text)++[32,61,32])++m)++[32,105,110,32])++z)else bif (a.kind==9)then (gd ([102,111,114,32].length+a.text.length)).bind fun _=>(gd (([102,111,114,32]++a.text).length+[32,105,110,32].length)).bind fun _=>(idx a.args 0).bind fun D=>(rsL12Text (aj D)).bind fun o=>(gd ((([102,111,114,32]++a.text)++[32,105,110,32]).length+o.length)).bind fun _=>(gd (((([102,111,114,32]++a.text)++[32,105,110,32])++o).length+[32,100,111,32].length)).bind fun _=>(idx a.args 1).bind fun r=>(rsL12Text (aj r)).bind fun i=>(gd ((((([102,111,114,32]++a.text)++[32,105,110,32])++o)++[32,100,111,32]).length+i.length)).bind fun _=>some ((((([102,111,114,32]++a.text)++[32,105,110,32])++o)++[32,100,111,32])++i)else bif (a.kind==8)then (idx a.args 0).bind fun s=>(rsL12Text (aj s)).bind fun b=>(gd ([105,102,32].length+b.length)).bind fun _=>(gd (([105,102,32]++b).length+[32,116,104,101,110,32].length)).bind fun _=>(idx a.args 1).bind fun t=>(rsL12Text (aj t)).bind fun e=>(gd ((([105,102,32]++b)++[32,116,104,101,110,32]).length+e.length)).bind fun _=>(gd (((([105,102,32]++b)++[32,116,104,101,110,32])++e).length+[32,101,108,115,101,32].length)).bind fun _=>(idx a.args 2).bind fun u=>(rsL12Text (aj u)).bind fun j=>(gd ((((([105,102,32]++b)++[32,116,104,101,110,32])++e)++[32,101,108,115,101,32]).length+j.length)).bind fun _=>some ((((([105,102,32]++b)++[32,116,104,101,110,32])++e)++[32,101,108,115,101,32])++j)else (wW (aj a)).bind fun f=>bif (f==1)then (idx a.args 0).bind fun v=>(rsL12At (aj v) 2).bind fun c=>(gd (c.length+[32].length)).bind fun _=>(DY a.n).bind fun g=>(gd ((c++[32]).length+g.length)).bind fun _=>(gd (((c++[32])++g).length+[32].length)).bind fun _=>(idx a.args 1).bind fun w=>(rsL12At (aj w) (w64 (f+1))).bind fun k=>(gd ((((c++[32])++g)++[32]).length+k.length)).bind fun _=>some ((((c++[32])++g)++[32])++k)else (idx a.args 0).bind fun x=>(rsL12At (aj x) f).bind fun d=>(gd (d.length+[32].length)).bind fun _=>(DY a.n).bind fun h=>(gd ((d++[32]).length+h.length)).bind fun _=>(gd (((d++[32])++h).length+[32].length)).bind fun _=>(idx a.args 1).bind fun y=>(rsL12At (aj y) (w64 (f+1))).bind fun l=>(gd ((((d++[32])++h)++[32]).length+l.length)).bind fun _=>
 some ((((d++[32])++h)++[32])++l)
def JW(rsL12Text:af->Option (Str))(rsL12List:(List af)->Option (Str))(rsL12At:af->Int->Option (Str))(a:List af):Option (Str):=au (fun(⟨f,g,h⟩:(List af)×(List Str)×Int)=>bif (decide (h<(f.length:Int)))then (idx f h).bind fun d=>(rsL12Text (aj d)).bind fun c=>(gd (g.length+([c]:List Str).length)).bind fun _=>some (.inl (f,g++([c]:List Str),w64 (h+1)))else ((aae g [44,32]).bind fun e=>some (e)).bind fun r=>some (.inr r)) (a,[],0)
def XE(rsL12Text:af->Option (Str))(rsL12List:(List af)->Option (Str))(rsL12At:af->Int->Option (Str))(a:af)(b:Int):Option (Str):=(rsL12Text (aj a)).bind fun c=>(wW (aj a)).bind fun d=>bif (decide (d<b))then (gd ([40].length+c.length)).bind fun _=>(gd (([40]++c).length+[41].length)).bind fun _=>some (([40]++c)++[41])else some (c)
def bZ:Nat->(af->Option (Str))×((List af)->Option (Str))×(af->Int->Option (Str))
 | 0=>(fun _=>none,fun _=>none,fun _ _=>none)
 | n+1=>(JV (bZ n).1 (bZ n).2.1 (bZ n).2.2,JW (bZ n).1 (bZ n).2.1 (bZ n).2.2,XE (bZ n).1 (bZ n).2.1 (bZ n).2.2)
def PE(a:af):Option (Str):=(bZ (siz a+1)).1 a
def ac5:Fsp:=⟨168,[shT .expr],[shF .str],true,false,fun x=>PE x⟩
def L8(n:Nat):Fsp:=⟨168,[shT .expr],[shF .str],true,false,fun x=>(bZ n).1 x⟩
def aid(a:List af):Option (Str):=(bZ (siz a+1)).2.1 a
def ac6:Fsp:=⟨210,[slF .expr],[shF .str],true,false,fun x=>aid x⟩
def L9(n:Nat):Fsp:=⟨210,[slF .expr],[shF .str],true,false,fun x=>(bZ n).2.1 x⟩
def aoP(a:af)(b:Int):Option (Str):=(bZ (siz a+1)).2.2 a b
def aie:Fsp:=⟨212,[shT .expr,shF .int],[shF .str],true,false,fun x=>aoP x.1 x.2⟩
def VE(n:Nat):Fsp:=⟨212,[shT .expr,shF .int],[shF .str],true,false,fun x=>(bZ n).2.2 x.1 x.2⟩
def kz(a:af):Option (Str):=(iK (aj a)).bind fun b=>bif (!b)then some ([])else (PE (aj a)).bind fun c=>some (c)
def Uc:Fsp:=⟨123,[shT .expr],[shF .str],true,false,fun x=>kz x⟩
def kV(a:Str)(b:Str)(c:Str):Option (Str):=(pq a).bind fun d=>bif (decide (d.2>=0))then some (a)else (um (aj d.1)).bind fun g=>(kR g b).bind fun h=>bif (!h)then some (a)else (jX (aj d.1) b c).bind fun e=>(kz (aj e.1)).bind fun f=>bif (!e.2)then some (a)else bif (decide ((f.length:Int)>120))then some (a)else some (f)
def acS:Fsp:=⟨73,[shF .str,shF .str,shF .str],[shF .str],true,false,fun x=>kV x.1 x.2.1 x.2.2⟩
def F7(a:dZ)(b:List GOp):Option (dZ):=au (fun(⟨i,j,k,l,m,o,p,q,r,s,t,u,v,w,x,y,z,A⟩:(List GOp)×Int×Int×Int×Int×Int×Str×Str×Int×Int×Int×Int×Int×Int×Str×Str×Int×Int)=>bif (decide (A<(i.length:Int)))then (idx i A).bind fun d=>bif (p==d.src)then bif (j==4)then (kV q d.src d.dst).bind fun e=>some (.inl (i,j,k,l,m,o,d.dst,e,r,s,t,u,v,w,x,y,z,w64 (A+1)))else bif (j==1)then bif (o==2)then (kV q d.src d.dst).bind fun f=>some (.inl (i,j,k,l,m,o,d.dst,f,r,s,t,u,v,w,x,y,z,w64 (A+1)))else some (.inl (i,j,k,l,m,o,d.dst,q,r,s,t,u,v,w,x,y,z,w64 (A+1)))else some (.inl (i,j,k,l,m,o,d.dst,q,r,s,t,u,v,w,x,y,z,w64 (A+1)))else bif (j==4)then (kV q d.src d.dst).bind fun g=>some (.inl (i,j,k,l,m,o,p,g,r,s,t,u,v,w,x,y,z,w64 (A+1)))else bif (j==1)then bif (o==2)then (kV q d.src d.dst).bind fun h=>some (.inl (i,j,k,l,m,o,p,h,r,s,t,u,v,w,x,y,z,w64 (A+1)))else some (.inl (i,j,k,l,m,o,p,q,r,s,t,u,v,w,x,y,z,w64 (A+1)))else some (.inl (i,j,k,l,m,o,p,q,r,s,t,u,v,w,x,y,z,w64 (A+1)))else some (.inr (dZ.mk j k (ah.mk l m o p q r)))
 ) (b,a.kind,a.pos,a.cell.id,a.cell.version,a.cell.kind,a.cell.name,a.cell.code,a.cell.n,0,0,0,0,0,[],[],0,0)
def XO:Fsp:=⟨28,[shT .edit,slF .op],[shT .edit],true,false,fun x=>F7 x.1 x.2⟩
def jD(a:ak)(b:Int):Option (Int):=au (fun(⟨e,f,g⟩:Int×(List ah)×Int)=>bif (decide (g<(f.length:Int)))then (idx f g).bind fun d=>bif (d.id==e)then some (.inr (g))else some (.inl (e,f,w64 (g+1)))else some (.inr ((-1)))) (b,a.cells,0)
def XL:Fsp:=⟨31,[shT .notebook,shF .int],[shF .int],true,false,fun x=>jD x.1 x.2⟩
def kH(a:Str):Option (Bool):=au (fun (b:Str×Int)=>bif (decide (b.2<(b.1.length:Int)))then (idx b.1 b.2).bind fun c=>bif (decide ((c.toNat:Int)<32))then some (.inr (false))else (idx b.1 b.2).bind fun d=>bif (decide ((d.toNat:Int)>126))then some (.inr (false))else some (.inl (b.1,w64 (b.2+1)))else some (.inr ((decide ((b.1.length:Int)<=120))))) (a,0)
def P9:Fsp:=⟨124,[shF .str],[shF .bool],true,false,fun x=>kH x⟩
def dm(a:ah):Option (Bool):=(rH a.id 1 999).bind fun b=>bif (!b)then some (false)else (rH a.version 1 999).bind fun c=>bif (!c)then some (false)else (kH a.code).bind fun d=>bif (!d)then some (false)else bif (a.kind==1)then bif (a.name==[])then some ((a.n==0))else some (false)else bif (a.kind==2)then (bM a.name).bind fun e=>bif e then some ((a.n==0))else some (false)else bif (a.kind==4)then (bM a.name).bind fun f=>bif f then some ((a.n==0))else some (false)else bif (a.kind==3)then (bM a.name).bind fun g=>bif g then bif (a.code==[])then (rH a.n 0 100).bind fun h=>some (h)else some (false)else some (false)else some (false)
def P8:Fsp:=⟨76,[shT .cell],[shF .bool],true,false,fun x=>dm x⟩
def eP(a:ak):Option (Bool):=au (fun (b:(List ah)×Int)=>bif (decide (b.2<(b.1.length:Int)))then (idx b.1 b.2).bind fun c=>(dm c).bind fun d=>bif (!d)then some (.inr (false))else (idx b.1 b.2).bind fun e=>(jD (ak.mk b.1) e.id).bind fun f=>bif (f != b.2)then some (.inr (false))else some (.inl (b.1,w64 (b.2+1)))else some (.inr ((decide ((b.1.length:Int)<=8))))) (a.cells,0)
def F6:Fsp:=⟨74,[shT .notebook],[shF .bool],true,false,fun x=>eP x⟩
def XA(a:Int)(b:Int):Option (Int):=bif (decide (a<b))then some (a)else some (b)
def aia:Fsp:=⟨127,[shF .int,shF .int],[shF .int],true,false,fun x=>XA x.1 x.2⟩
def Ie(a:List ah)(b:Int)(c:ah):Option ((List ah)):=(XA b (a.length:Int)).bind fun g=>(FY 0 g).bind fun e=>(eff.cutL a none (some e)).bind fun d=>(gd (0+d.length)).bind fun _=>(gd (([]++d).length+[c].length)).bind fun _=>(eff.cutL a (some e) none).bind fun f=>(gd ((([]++d)++[c]).length+f.length)).bind fun _=>some ((([]++d)++[c])++f)
def agd:Fsp:=⟨77,[slF .cell,shF .int,shT .cell],[slF .cell],true,false,fun x=>Ie x.1 x.2.1 x.2.2⟩
def BH(a:List ah)(b:Int):Option ((List ah)):=(eff.cutL a none (some b)).bind fun c=>(gd (0+c.length)).bind fun _=>(eff.cutL a (some (w64 (b+1))) none).bind fun d=>(gd (([]++c).length+d.length)).bind fun _=>some (([]++c)++d)
def acZ:Fsp:=⟨78,[slF .cell,shF .int],[slF .cell],true,false,fun x=>BH x.1 x.2⟩
def BI(a:ah)(b:dZ):Option (ah×Int):=bif (b.kind==4)then bif (a.kind==3)then some (a,5)else bif (b.kind != 5)then bif (a.version==999)then some (ah.mk a.id a.version a.kind b.cell.name b.cell.code a.n,6)else (dm (ah.mk a.id (w64 (a.version+1)) a.kind b.cell.name b.cell.code a.n)).bind fun c=>bif (!c)then some (ah.mk a.id (w64 (a.version+1)) a.kind b.cell.name b.cell.code a.n,1)else some (ah.mk a.id (w64 (a.version+1)) a.kind b.cell.name b.cell.code a.n,0)else (dm (ah.mk a.id a.version a.kind b.cell.name b.cell.code a.n)).bind fun d=>bif (!d)then some (ah.mk a.id a.version a.kind b.cell.name b.cell.code a.n,1)else some (ah.mk a.id a.version a.kind b.cell.name b.cell.code a.n,0)else bif (b.kind==5)then bif (a.kind != 3)then some (a,5)else bif (b.kind != 5)then bif (a.version==999)then some (ah.mk a.id a.version a.kind a.name a.code b.cell.n,6)else (dm (ah.mk a.id (w64 (a.version+1)) a.kind a.name a.code b.cell.n)).bind fun e=>bif (!e)then some (ah.mk a.id (w64 (a.version+1)) a.kind a.name a.code b.cell.n,1)else some (ah.mk a.id (w64 (a.version+1)) a.kind a.name a.code b.cell.n,0)else (dm (ah.mk a.id a.version a.kind a.name a.code b.cell.n)).bind fun f=>bif (!f)then some (ah.mk a.id a.version a.kind a.name a.code b.cell.n,1)else some (ah.mk a.id a.version a.kind a.name a.code b.cell.n,0)else bif (a.kind != 2)then some (a,5)else bif (b.kind != 5)then bif (a.version==999)then some (a,6)else (dm (ah.mk a.id (w64 (a.version+1)) a.kind a.name a.code a.n)).bind fun g=>bif (!g)then some (ah.mk a.id (w64 (a.version+1)) a.kind a.name a.code a.n,1)else some (ah.mk a.id (w64 (a.version+1)) a.kind a.name a.code a.n,0)else (dm a).bind fun h=>bif (!h)then some (a,1)else some (a,0)
def ac0:Fsp:=⟨79,[shT .cell,shT .edit],[shT .cell,shF .int],true,false,fun x=>BI x.1 x.2⟩
def kJ(a:ak)(b:dZ):Option (ak×Int):=(iV a).bind fun c=>(eP a).bind fun h=>bif (!h)then some (c,1)else (rH b.kind 1 6).bind fun i=>bif (!i)then some (c,1)else (jD a b.cell.id).bind fun d=>bif (b.kind==1)then (dm b.cell).bind fun j=>bif (!j)then some (c,1)else bif (decide (d>=0))then some (c,3)else bif ((a.cells.length:Int)==8)then some (c,4)else (Ie a.cells b.pos b.cell).bind fun k=>some (ak.mk k,0)else bif (decide (d<0))then some (c,2)else bif (b.kind==2)then (BH a.cells d).bind fun l=>some (ak.mk l,0)else bif (b.kind==3)then (BH a.cells d).bind fun m=>(idx a.cells d).bind fun n=>(Ie m b.pos n).bind fun f=>some (ak.mk f,0)else (idx a.cells d).bind fun g=>(BI g b).bind fun e=>bif (e.2==0)then (idx c.cells d).bind fun _=>(c.cells[d.toNat]?).bind fun o=>some (ak.mk (c.cells.set d.toNat e.1),e.2)else some (c,e.2)
def XM:Fsp:=⟨29,[shT .notebook,shT .edit],[shT .notebook,shF .int],true,false,fun x=>kJ x.1 x.2⟩
def mM(a:GOp):Option (Int):=some (w64 ((w64 (a.time*3))+a.by_))
def NE:Fsp:=⟨30,[shT .op],[shF .int],true,false,fun x=>mM x⟩
def kY(a:Int):Option (aC):=some (aC.mk 6 a 0 [] [] [] [])
def Ud:Fsp:=⟨215,[shF .int],[shT .val],true,false,fun x=>kY x⟩
def yU(a:Int):Option (aC):=some (aC.mk 1 a 0 [] [] [] [])
def Po:Fsp:=⟨216,[shF .int],[shT .val],true,false,fun x=>yU x⟩
def sU(a:Str):Option ((List Str)):=au (fun(⟨g,h,i,j⟩:Str×(List Str)×Int×Int)=>bif (decide ((w64 (j+1))<(g.length:Int)))then (idx g j).bind fun e=>bif ((e.toNat:Int)==59)then (idx g (w64 (j+1))).bind fun f=>bif ((f.toNat:Int)==32)then (eff.cutL g (some i) (some j)).bind fun c=>(gd (h.length+([c]:List Str).length)).bind fun _=>some (.inl (g,h++([c]:List Str),w64 (j+2),w64 (j+1)))else some (.inl (g,h,i,w64 (j+1)))else some (.inl (g,h,i,w64 (j+1)))else ((eff.cutL g (some i) none).bind fun d=>(gd (h.length+([d]:List Str).length)).bind fun _=>some (h++([d]:List Str))).bind fun r=>some (.inr r)) (a,[],0,0)
def Z7:Fsp:=⟨258,[shF .str],[slF .str],true,false,fun x=>sU x⟩
def nJ(a:Str)(b:Int):Option ((List Str)):=au (fun(⟨g,h,i,j,k⟩:Str×Int×(List Str)×Int×Int)=>bif (decide (k<=(g.length:Int)))then bif (k==(g.length:Int))then (eff.cutL g (some j) (some k)).bind fun d=>(gd (i.length+([d]:List Str).length)).bind fun _=>some (.inl (g,h,i++([d]:List Str),w64 (k+1),w64 (k+1)))else (idx g k).bind fun f=>bif ((f.toNat:Int)==h)then (eff.cutL g (some j) (some k)).bind fun e=>(gd (i.length+([e]:List Str).length)).bind fun _=>some (.inl (g,h,i++([e]:List Str),w64 (k+1),w64 (k+1)))else some (.inl (g,h,i,j,w64 (k+1)))else some (.inr (i))) (a,b,[],0,0)
def Xp:Fsp:=⟨259,[shF .str,shF .u8],[slF .str],true,false,fun x=>nJ x.1 x.2⟩
def pG(a:Int):Option (Bool):=(rH a (-1000000000) 1000000000).bind fun b=>some (b)
def ZW:Fsp:=⟨284,[shF .int],[shF .bool],true,false,fun x=>pG x⟩
def D7(a:Str)(b:Int):Option ((List Int)×Bool):=(nJ a 32).bind fun e=>au (fun(⟨h,i,j,k⟩:Int×(List Int)×(List Str)×Int)=>bif (decide (k<(j.length:Int)))then (idx j k).bind fun _=>(j[k.toNat]?).bind fun f=>(jK f).bind fun d=>bif (!d.2)then some (.inr (i,false))else (pG d.1).bind fun g=>bif (!g)then some (.inr (i,false))else (gd (i.length+[d.1].length)).bind fun _=>some (.inl (h,i++[d.1],j,w64 (k+1)))else some (.inr (i,((i.length:Int)==h)))) (b,[],e,0)
def agi:Fsp:=⟨260,[shF .str,shF .int],[slF .int,shF .bool],true,false,fun x=>D7 x.1 x.2⟩
def rV(a:List Str):Option (Bool):=au (fun (b:(List Str)×Int)=>bif (decide (b.2<(b.1.length:Int)))then (eff.cutL b.1 none (some b.2)).bind fun c=>(idx b.1 b.2).bind fun d=>(kR c d).bind fun e=>bif e then some (.inr (false))else some (.inl (b.1,w64 (b.2+1)))else some (.inr (true))) (a,0)
def Qb:Fsp:=⟨287,[slF .str],[shF .bool],true,false,fun x=>rV x⟩
def ul(a:List Str):Option (Bool):=au (fun (b:(List Str)×Int)=>bif (decide (b.2<(b.1.length:Int)))then (idx b.1 b.2).bind fun c=>(bM c).bind fun d=>bif (!d)then some (.inr (false))else some (.inl (b.1,w64 (b.2+1)))else ((rH (b.1.length:Int) 1 4).bind fun e=>bif e then (rV b.1).bind fun f=>some (f)else some (false)).bind fun r=>some (.inr r)) (a,0)
def Xy:Fsp:=⟨262,[slF .str],[shF .bool],true,false,fun x=>ul x⟩
def VB(a:bQ)(b:bQ):Option (Bool):=bif (decide (a.cell<b.cell))then some (true)else bif (a.cell==b.cell)then some ((decide (a.row<b.row)))else some (false)
def ZX:Fsp:=⟨333,[shT .origin,shT .origin],[shF .bool],true,false,fun x=>VB x.1 x.2⟩
def rQ(a:List bQ):Option (Bool):=au (fun (b:(List bQ)×Int)=>bif (decide (b.2<(b.1.length:Int)))then (idx b.1 b.2).bind fun c=>bif (decide (c.cell<0))then some (.inr (false))else (idx b.1 b.2).bind fun d=>bif (decide (d.row<0))then some (.inr (false))else bif (decide (b.2>0))then (idx b.1 (w64 (b.2-1))).bind fun e=>(idx b.1 b.2).bind fun f=>(VB e f).bind fun g=>bif (!g)then some (.inr (false))else some (.inl (b.1,w64 (b.2+1)))else some (.inl (b.1,w64 (b.2+1)))else some (.inr (true))) (a,0)
def Px:Fsp:=⟨306,[slF .origin],[shF .bool],true,false,fun x=>rQ x⟩
def Ib(a:aC):Option (Bool):=(ul a.columns).bind fun e=>bif (!e)then some (false)else bif (decide ((a.rows.length:Int)>12))then some (false)else au (fun(⟨i,j,k,l,m,o,p,q⟩:Int×Int×Int×Str×(List aC)×(List Str)×(List bD)×Int)=>bif (decide (q<(p.length:Int)))then (idx p q).bind fun d=>bif ((d.cells.length:Int) != (o.length:Int))then some (.inr (false))else (rQ d.orig).bind fun f=>bif (!f)then some (.inr (false))else au (fun(⟨c,s,t,u,v,w,x,y,z,A,B⟩:Int×Int×Int×Str×(List aC)×(List Str)×(List bD)×Int×(List Int)×(List bQ)×Int)=>bif (decide (B<(z.length:Int)))then (idx z B).bind fun g=>(pG g).bind fun h=>bif (!h)then (some (.inr (false))).bind fun r=>some (.inr r)else some (.inl (c,s,t,u,v,w,x,y,z,A,w64 (B+1)))else some (.inr (.inl (c,s,t,u,v,w,x,w64 (y+1))))) (i,j,k,l,m,o,p,q,d.cells,d.orig,0)else some (.inr (true))) (a.kind,a.n,a.step,a.text,a.list,a.columns,a.rows,0)
def acV:Fsp:=⟨286,[shT .val],[shF .bool],true,false,fun x=>Ib x⟩
def jL(a:aC):Option (Bool):=bif (!(a.text==[]))then some (false)else bif (a.step != 0)then some (false)else bif (a.n==0)then (Ib (aC.mk 5 a.n a.step a.text [] a.columns a.rows)).bind fun b=>some (b)else some (false)
def ql(a:aC):Option (Bool):=bif (a.kind==5)&&a.list.isEmpty then jL a else none
def iG:Fsp:=⟨261,[shT .val],[shF .bool],true,false,fun x=>ql x⟩
def uj(a:Str):Option (aC×Bool):=(sU a).bind fun c=>(idx c 0).bind fun _=>(c[0]?).bind fun e=>(nJ e 32).bind fun f=>au (fun(⟨i,j,k,l,m,n,o,p,q,s,t,u,v,w,x,y⟩:Int×Int×Int×Str×(List aC)×(List Str)×(List bD)×(List Str)×Int×Int×Int×Str×(List aC)×(List Str)×(List bD)×Int)=>bif (decide (y<(p.length:Int)))then (idx p y).bind fun _=>(p[y.toNat]?).bind fun g=>(D7 g (w.length:Int)).bind fun d=>bif (!d.2)then some (.inr (aC.mk 0 0 0 [] [] [] [],false))else (gd (x.length+([bD.mk d.1 []]).length)).bind fun _=>some (.inl (i,j,k,l,m,n,o,p,q,s,t,u,v,w,x++([bD.mk d.1 []]),w64 (y+1)))else ((ql (aC.mk q s t u v w x)).bind fun h=>bif (!h)then some (aC.mk 0 0 0 [] [] [] [],false)else some (aC.mk q s t u v w x,true)).bind fun r=>some (.inr r)) (0,0,0,[],[],[],[],c,5,0,0,[],[],f,[],1)
def Xv:Fsp:=⟨217,[shF .str],[shT .val,shF .bool],true,false,fun x=>uj x⟩
def y7(a:Str):Option (Int):=(sU a).bind fun c=>(idx c 0).bind fun _=>(c[0]?).bind fun e=>(nJ e 32).bind fun d=>(ul d).bind fun f=>bif (!f)then some (0)else au (fun(⟨i,j,k⟩:(List Str)×(List Str)×Int)=>bif (decide (k<(i.length:Int)))then (idx i k).bind fun _=>(i[k.toNat]?).bind fun g=>(D7 g (j.length:Int)).bind fun h=>bif (!h.2)then some (.inr (k))else bif (decide (k>12))then some (.inr (k))else some (.inl (i,j,w64 (k+1)))else some (.inr ((-1)))) (c,d,1)
def XK:Fsp:=⟨218,[shF .str],[shF .int],true,false,fun x=>y7 x⟩
def rP(a:Int)(b:aC):Option (aC):=bif (b.kind != 5)then (kY 4).bind fun e=>some (dB e)else (ql (dB b)).bind fun f=>bif (!f)then (kY 4).bind fun g=>some (dB g)else bif (decide (a<0))then (kY 4).bind fun h=>some (dB h)else (DZ (dB b)).bind fun d=>au (fun(⟨j,k,l,m,o,p,q,r,s,t,u,v,w,x,y,z⟩:Int×Int×Int×Int×Str×(List aC)×(List Str)×(List bD)×Int×Int×Int×Str×(List aC)×(List Str)×(List bD)×Int)=>bif (decide (z<(y.length:Int)))then (idx y z).bind fun _=>(y[z.toNat]?).bind fun i=>some (.inl (j,k,l,m,o,p,q,r,s,t,u,v,w,x,y.set z.toNat (bD.mk i.cells [bQ.mk j z]),w64 (z+1)))else some (.inr (aC.mk s t u v w x y))) (a,0,0,0,[],[],[],[],d.kind,d.n,d.step,d.text,d.list,d.columns,d.rows,0)
def Pm:Fsp:=⟨219,[shF .int,shT .val],[shT .val],true,false,fun x=>rP x.1 x.2⟩
def lS(a:ah):Option (bG):=(dm a).bind fun d=>bif (!d)then some (bG.mk 0 [] (af.mk 0 0 [] []) (aC.mk 0 0 0 [] [] [] []) 0)else bif (a.kind==2)then (pq a.code).bind fun b=>bif (decide (b.2>=0))then (kY 8).bind fun e=>some (bG.mk 4 a.name (af.mk 0 0 [] []) (dB e) b.2)else some (bG.mk 2 a.name (aj b.1) (aC.mk 0 0 0 [] [] [] []) 0)else bif (a.kind==3)then (yU a.n).bind fun f=>some (bG.mk 3 a.name (af.mk 0 0 [] []) (dB f) 0)else bif (a.kind==4)then (uj a.code).bind fun c=>bif (!c.2)then (kY 8).bind fun g=>(y7 a.code).bind fun h=>some (bG.mk 4 a.name (af.mk 0 0 [] []) (dB g) h)else (rP a.id (dB c.1)).bind fun i=>some (bG.mk 3 a.name (af.mk 0 0 [] []) (dB i) 0)else some (bG.mk 1 [] (af.mk 0 0 [] []) (aC.mk 0 0 0 [] [] [] []) 0)
def Qa:Fsp:=⟨171,[shT .cell],[shT .part],false,false,fun x=>lS x⟩
def og(a:ak):Option ((List bG)):=(eP a).bind fun d=>bif (!d)then some ([])else au (fun(⟨f,g,h⟩:(List ah)×(List bG)×Int)=>bif (decide (h<(f.length:Int)))then (idx f h).bind fun e=>(lS e).bind fun c=>(gd (g.length+[jO c].length)).bind fun _=>some (.inl (f,g++[jO c],w64 (h+1)))else some (.inr (g))) (a.cells,[],0)
def Ue:Fsp:=⟨128,[shT .notebook],[slF .part],false,true,fun x=>og x⟩
def xw(a:List bG)(b:Str):Option ((List Int)):=au (fun(⟨f,g,h,i⟩:(List bG)×Str×(List Int)×Int)=>bif (decide (i<(f.length:Int)))then (idx f i).bind fun d=>bif (d.kind != 1)then (idx f i).bind fun e=>bif (e.name==g)then (gd (h.length+[i].length)).bind fun _=>some (.inl (f,g,h++[i],w64 (i+1)))else some (.inl (f,g,h,w64 (i+1)))else some (.inl (f,g,h,w64 (i+1)))else some (.inr (h))) (a,b,[],0)
def aah:Fsp:=⟨172,[slF .part,shF .str],[slF .int],true,false,fun x=>xw x.1 x.2⟩
def Bv(a:List bG)(b:Str):Option (Int):=(xw a b).bind fun c=>bif ((c.length:Int)==0)then some ((-1))else bif ((c.length:Int)==1)then (idx c 0).bind fun _=>(c[0]?).bind fun d=>some (d)else some ((-2))
def acJ:Fsp:=⟨130,[slF .part,shF .str],[shF .int],true,false,fun x=>Bv x.1 x.2⟩
def rO(a:bG):Option ((List Str)):=bif (a.kind != 2)then some ([])else (um (aj a.expr)).bind fun b=>some (b)
def af4:Fsp:=⟨131,[shT .part],[slF .str],true,false,fun x=>rO x⟩
def D5(a:List bG)(b:Str)(c:Str):Option (Int):=(Bv a b).bind fun e=>bif (decide (e<0))then some (2)else au (fun(⟨m,n,o,p,q⟩:(List bG)×Str×Str×Int×Int)=>bif (decide (q<(m.length:Int)))then (idx m q).bind fun f=>(rO (jO f)).bind fun g=>(kR g o).bind fun h=>bif h then some (.inr (3))else (idx m q).bind fun i=>bif (i.kind==2)then (idx m q).bind fun j=>(kX (aj j.expr) n o).bind fun k=>bif k then some (.inl (m,n,o,4,w64 (q+1)))else some (.inl (m,n,o,p,w64 (q+1)))else some (.inl (m,n,o,p,w64 (q+1)))else ((xw m o).bind fun l=>bif (decide ((l.length:Int)>0))then some (3)else some (p)).bind fun r=>some (.inr r)) (a,b,c,0,0)
def ZY:Fsp:=⟨129,[slF .part,shF .str,shF .str],[shF .int],true,false,fun x=>D5 x.1 x.2.1 x.2.2⟩
def mZ(a:ak)(b:Str)(c:Str):Option (ak×Int):=(iV a).bind fun i=>(eP a).bind fun A=>bif (!A)then some (i,1)else (bM b).bind fun B=>bif (!B)then some (i,1)else (bM c).bind fun C=>bif (!C)then some (i,1)else bif (b==c)then some (i,1)else (og a).bind fun k=>(D5 k b c).bind fun l=>bif (l != 0)then some (i,l)else (Bv k b).bind fun m=>(idx i.cells m).bind fun _=>(i.cells[m.toNat]?).bind fun j=>au (fun(⟨D,E,F,G,H,I,J,K⟩:Str×Str×(List ah)×(List ah)×(List ah)×(List bG)×Int×Int)=>bif (decide (K<(I.length:Int)))then (idx I K).bind fun _=>(I[K.toNat]?).bind fun o=>(rO (jO o)).bind fun p=>(kR p D).bind fun q=>bif (!q)then some (.inl (D,E,F,G,H,I,J,w64 (K+1)))else (idx I K).bind fun _=>(I[K.toNat]?).bind fun s=>(jX (aj s.expr) D E).bind fun t=>(kz (aj t.1)).bind fun f=>(idx H K).bind fun _=>(H[K.toNat]?).bind fun e=>(idx (H.set K.toNat (ah.mk e.id e.version e.kind e.name f e.n)) K).bind fun _=>((H.set K.toNat (ah.mk e.id e.version e.kind e.name f e.n))[K.toNat]?).bind fun u=>bif (decide ((u.code.length:Int)>120))then (iV (ak.mk F)).bind fun v=>some (.inr (v,5))else (idx (H.set K.toNat (ah.mk e.id e.version e.kind e.name f e.n)) K).bind fun _=>((H.set K.toNat (ah.mk e.id e.version e.kind e.name f e.n))[K.toNat]?).bind fun w=>bif (w.version==999)then (idx (H.set K.toNat (ah.mk e.id e.version e.kind e.name f e.n)) K).bind fun _=>((H.set K.toNat (ah.mk e.id e.version e.kind e.name f e.n))[K.toNat]?).bind fun x=>(idx (H.set K.toNat (ah.mk e.id e.version e.kind e.name f e.n)) K).bind fun _=>((H.set K.toNat (ah.mk e.id e.version e.kind e.name f e.n))[K.toNat]?).bind fun g=>some (.inl (D,E,F,G,(H.set K.toNat (ah.mk e.id e.version e.kind e.name f e.n)).set K.toNat (ah.mk g.id (w64 (x.version+1)) g.kind g.name g.code g.n),I,6,w64 (K+1)))else (idx (H.set K.toNat (ah.mk e.id e.version e.kind e.name f e.n)) K).bind fun _=>((H.set K.toNat (ah.mk e.id e.version e.kind e.name f e.n))[K.toNat]?).bind fun y=>(idx (H.set K.toNat (ah.mk e.id e.version e.kind e.name f e.n)) K).bind fun _=>((H.set K.toNat (ah.mk e.id e.version e.kind e.name f e.n))[K.toNat]?).bind fun h=>some (.inl (D,E,F,G,(H.set K.toNat (ah.mk e.id e.version e.kind e.name f e.n)).set K.toNat (ah.mk h.id (w64 (y.version+1)) h.kind h.name h.code h.n),I,J,w64 (K+1)))else (bif (J != 0)then (iV (ak.mk F)).bind fun z=>some (z,J)else some (ak.mk H,0)).bind fun r=>some (.inr r)) (b,c,a.cells,[],i.cells.set m.toNat (ah.mk j.id j.version j.kind c j.code j.n),k,l,0)
def H9:Fsp:=⟨80,[shT .notebook,shF .str,shF .str],[shT .notebook,shF .int],true,false,fun x=>mZ x.1 x.2.1 x.2.2⟩
def pF(a:ak)(b:Str)(c:Str):Option (ak×Bool):=(iV a).bind fun i=>au (fun(⟨k,l,m,o,p,q⟩:Str×Str×(List ah)×(List ah)×(List ah)×Int)=>bif (decide (q<(p.length:Int)))then (idx p q).bind fun _=>(p[q.toNat]?).bind fun f=>some (.inl (k,l,m,o,p.set q.toNat (ah.mk f.id 1 f.kind f.name f.code f.n),w64 (q+1)))else ((mZ (ak.mk p) k l).bind fun h=>au (fun(⟨d,s,t,u,v⟩:(List ah)×(List ah)×(List ah)×Int×Int)=>bif (decide (v<(t.length:Int)))then (idx d v).bind fun j=>(idx t v).bind fun _=>(t[v.toNat]?).bind fun g=>some (.inl (d,s,t.set v.toNat (ah.mk g.id j.version g.kind g.name g.code g.n),u,w64 (v+1)))else some (.inr (ak.mk t,(u==0)))) (m,o,h.1.cells,h.2,0)).bind fun r=>some (.inr r)) (b,c,a.cells,[],i.cells,0)
def Xx:Fsp:=⟨32,[shT .notebook,shF .str,shF .str],[shT .notebook,shF .bool],true,false,fun x=>pF x.1 x.2.1 x.2.2⟩
def acY(a:List aK)(b:Int)(c:Int):Option (Int):=au (fun(⟨g,h,i,j⟩:(List aK)×Int×Int×Int)=>bif (decide (j<(g.length:Int)))then (idx g j).bind fun e=>bif (e.cell==h)then (idx g j).bind fun f=>bif (f.version==i)then some (.inr (j))else some (.inl (g,h,i,w64 (j+1)))else some (.inl (g,h,i,w64 (j+1)))else some (.inr ((-1)))) (a,b,c,0)
def ah9:Fsp:=⟨82,[slF .tape,shF .int,shF .int],[shF .int],true,false,fun x=>acY x.1 x.2.1 x.2.2⟩
def BJ(a:aN)(b:aN):Option (Bool):=bif (a.kind==b.kind)then bif (a.n==b.n)then bif (a.text==b.text)then some ((a.time==b.time))else some (false)else some (false)else some (false)
def ac2:Fsp:=⟨174,[shT .read,shT .read],[shF .bool],true,false,fun x=>BJ x.1 x.2⟩
def D9(a:List aN)(b:aN):Option (aC×Bool):=au (fun(⟨h,i,j,k,l,m,o,p,q,r,s,t,u,v,w,x,y,z,A,B⟩:(List aN)×Int×Int×Int×Str×Int×Int×Int×Str×(List aC)×(List Str)×(List bD)×Int×Int×Int×Str×(List aC)×(List Str)×(List bD)×Int)=>bif (decide (B<(h.length:Int)))then (idx h B).bind fun d=>(BJ (iW d) (aN.mk i j k l (aC.mk m o p q r s t))).bind fun e=>bif e then (idx h B).bind fun f=>(DZ (dB f.result)).bind fun g=>some (.inr (dB g,true))else some (.inl (h,i,j,k,l,m,o,p,q,r,s,t,u,v,w,x,y,z,A,w64 (B+1)))else some (.inr (aC.mk 0 0 0 [] [] [] [],false))) (a,b.kind,b.n,b.time,b.text,b.result.kind,b.result.n,b.result.step,b.result.text,b.result.list,b.result.columns,b.result.rows,0,0,0,[],[],[],[],0)
def aag:Fsp:=⟨133,[slF .read,shT .read],[shT .val,shF .bool],true,false,fun x=>D9 x.1 x.2⟩
def qI(a:List aN)(b:List aN):Option ((List aN)):=(sV a).bind fun e=>au (fun(⟨i,j,k⟩:(List aN)×(List aN)×Int)=>bif (decide (k<(i.length:Int)))then (idx i k).bind fun f=>(D9 j (iW f)).bind fun g=>bif (!g.2)then (idx i k).bind fun h=>(BK (iW h)).bind fun d=>(gd (j.length+[iW d].length)).bind fun _=>some (.inl (i,j++[iW d],w64 (k+1)))else some (.inl (i,j,w64 (k+1)))else some (.inr (j))) (b,e,0)
def TQ:Fsp:=⟨83,[slF .read,slF .read],[slF .read],true,false,fun x=>qI x.1 x.2⟩
def yV(a:aK)(b:aK):Option (Bool):=bif (decide (a.cell<b.cell))then some (true)else bif (a.cell==b.cell)then some ((decide (a.version<b.version)))else some (false)
def Xz:Fsp:=⟨84,[shT .tape,shT .tape],[shF .bool],true,false,fun x=>yV x.1 x.2⟩
def Bz(a:List aK)(b:Int)(c:Int)(d:List aN):Option ((List aK)):=(Ic a).bind fun h=>(acY a b c).bind fun i=>bif (decide (i>=0))then (idx h i).bind fun _=>(h[i.toNat]?).bind fun m=>(qI m.reads d).bind fun n=>(idx h i).bind fun _=>(h[i.toNat]?).bind fun l=>some (h.set i.toNat (aK.mk l.cell l.version n))else bif ((d.length:Int)==0)then some (h)else (qI [] d).bind fun o=>au (fun(⟨p,q,s,t,u⟩:(List aK)×Int×Int×(List aN)×Int)=>bif (decide (u<(p.length:Int)))then (idx p u).bind fun _=>(p[u.toNat]?).bind fun j=>(yV (aK.mk q s t) j).bind fun k=>bif (!k)then some (.inl (p,q,s,t,w64 (u+1)))else ((cutAt p u).bind fun f=>((if u=(f:Int)then some ()else none)).bind fun _=>(gd (0+(p.take f).length)).bind fun _=>(gd (([]++(p.take f)).length+[aK.mk q s t].length)).bind fun _=>((if u=(f:Int)then some ()else none)).bind fun _=>(gd ((([]++(p.take f))++[aK.mk q s t]).length+(p.drop f).length)).bind fun _=>some ((([]++(p.take f))++[aK.mk q s t])++(p.drop f))).bind fun r=>some (.inr r)else ((cutAt p u).bind fun g=>((if u=(g:Int)then some ()else none)).bind fun _=>(gd (0+(p.take g).length)).bind fun _=>(gd (([]++(p.take g)).length+[aK.mk q s t].length)).bind fun _=>((if u=(g:Int)then some ()else none)).bind fun _=>(gd ((([]++(p.take g))++[aK.mk q s t]).length+(p.drop g).length)).bind fun _=>some ((([]++(p.take g))++[aK.mk q s t])++(p.drop g))).bind fun r=>some (.inr r)) (h,b,c,o,0)
def acL:Fsp:=⟨34,[slF .tape,shF .int,shF .int,slF .read],[slF .tape],true,false,fun x=>Bz x.1 x.2.1 x.2.2.1 x.2.2.2⟩
def kP(a:aO)(b:GOp)(c:List GOp):Option (aO):=(Ia a).bind fun d=>bif (b.kind==1)then (F7 b.edit c).bind fun h=>(kJ a.notebook h).bind fun e=>bif (e.2 != 0)then some (d)else bif (h.kind==1)then (jD e.1 h.cell.id).bind fun m=>(mM b).bind fun r=>(idx e.1.cells m).bind fun _=>(e.1.cells[m.toNat]?).bind fun j=>some (aO.mk (ak.mk (e.1.cells.set m.toNat (ah.mk j.id r j.kind j.name j.code j.n))) d.tapes d.renames)else bif (h.kind==4)then (jD e.1 h.cell.id).bind fun o=>(mM b).bind fun s=>(idx e.1.cells o).bind fun _=>(e.1.cells[o.toNat]?).bind fun f=>some (aO.mk (ak.mk (e.1.cells.set o.toNat (ah.mk f.id s f.kind f.name f.code f.n))) d.tapes d.renames)else bif (h.kind==6)then (jD e.1 h.cell.id).bind fun i=>(mM b).bind fun p=>(idx e.1.cells i).bind fun _=>(e.1.cells[i.toNat]?).bind fun g=>some (aO.mk (ak.mk (e.1.cells.set i.toNat (ah.mk g.id p g.kind g.name g.code g.n))) d.tapes d.renames)else some (aO.mk e.1 d.tapes d.renames)else bif (b.kind==2)then (pF a.notebook b.src b.dst).bind fun k=>bif k.2 then (BB b).bind fun l=>(gd (d.renames.length+[l].length)).bind fun _=>some (aO.mk k.1 d.tapes (d.renames++[l]))else some (d)else bif (b.kind==3)then (Bz d.tapes b.cell b.version b.reads).bind fun q=>some (aO.mk d.notebook q d.renames)else some (d)
def ZO:Fsp:=⟨8,[shT .document,shT .op,slF .op],[shT .document],true,false,fun x=>kP x.1 x.2.1 x.2.2⟩
def WZ(a:List Int):Option ((List Int)):=(mk (a.length:Int)).bind fun c=>au (fun(⟨f,g,h⟩:(List Int)×(List Int)×Int)=>bif (decide (h<(f.length:Int)))then (idx f h).bind fun d=>(idx g h).bind fun _=>(g[h.toNat]?).bind fun e=>some (.inl (f,g.set h.toNat d,w64 (h+1)))else some (.inr (g))) (a,List.replicate c 0,0)
def ahK:Fsp:=⟨37,[slF .int],[slF .int],true,false,fun x=>WZ x⟩
def toCell(a:ah):Option (ah):=some (a)
def ahM:Fsp:=⟨87,[shT .cell],[shT .cell],true,false,fun x=>toCell x⟩
def W9(a:dZ):Option (dZ):=(toCell a.cell).bind fun b=>some (dZ.mk a.kind a.pos b)
def ahL:Fsp:=⟨38,[shT .edit],[shT .edit],true,false,fun x=>W9 x⟩
def Jz(a:List Str):Option ((List Str)):=(mk (a.length:Int)).bind fun c=>au (fun(⟨f,g,h⟩:(List Str)×(List Str)×Int)=>bif (decide (h<(f.length:Int)))then (idx f h).bind fun d=>(idx g h).bind fun _=>(g[h.toNat]?).bind fun e=>some (.inl (f,g.set h.toNat d,w64 (h+1)))else some (.inr (g))) (a,List.replicate c [],0)
def Zv:Fsp:=⟨176,[slF .str],[slF .str],true,false,fun x=>Jz x⟩
def OY(a:bQ):Option (bQ):=some (a)
def acv:Fsp:=⟨288,[shT .origin],[shT .origin],true,false,fun x=>OY x⟩
def JA(a:List bQ):Option ((List bQ)):=(mk (a.length:Int)).bind fun c=>au (fun(⟨g,h,i⟩:(List bQ)×(List bQ)×Int)=>bif (decide (i<(g.length:Int)))then (idx g i).bind fun d=>(OY d).bind fun e=>(idx h i).bind fun _=>(h[i.toNat]?).bind fun f=>some (.inl (g,h.set i.toNat e,w64 (i+1)))else some (.inr (h))) (a,List.replicate c (bQ.mk 0 0),0)
def Zy:Fsp:=⟨263,[slF .origin],[slF .origin],true,false,fun x=>JA x⟩
def aeF(a:bD):Option (bD):=(WZ a.cells).bind fun b=>(JA a.orig).bind fun c=>some (bD.mk b c)
def akv:Fsp:=⟨221,[shT .row],[shT .row],true,false,fun x=>aeF x⟩
def acu(a:List bD):Option ((List bD)):=(mk (a.length:Int)).bind fun c=>au (fun(⟨g,h,i⟩:(List bD)×(List bD)×Int)=>bif (decide (i<(g.length:Int)))then (idx g i).bind fun d=>(aeF d).bind fun e=>(idx h i).bind fun _=>(h[i.toNat]?).bind fun f=>some (.inl (g,h.set i.toNat e,w64 (i+1)))else some (.inr (h))) (a,List.replicate c (bD.mk [] []),0)
def ahI:Fsp:=⟨177,[slF .row],[slF .row],true,false,fun x=>acu x⟩
def OU(rtoValue:aC->Option (aC))(rtoValueS:(List aC)->Option ((List aC)))(a:aC):Option (aC):=(rtoValueS a.list).bind fun b=>(Jz a.columns).bind fun c=>(acu a.rows).bind fun d=>some (aC.mk a.kind a.n a.step a.text b c d)
def Jy(rtoValue:aC->Option (aC))(rtoValueS:(List aC)->Option ((List aC)))(a:List aC):Option ((List aC)):=(mk (a.length:Int)).bind fun c=>au (fun(⟨g,h,i⟩:(List aC)×(List aC)×Int)=>bif (decide (i<(g.length:Int)))then (idx g i).bind fun d=>(rtoValue (dB d)).bind fun e=>(idx h i).bind fun _=>(h[i.toNat]?).bind fun f=>some (.inl (g,h.set i.toNat (dB e),w64 (i+1)))else some (.inr (h))) (a,List.replicate c (aC.mk 0 0 0 [] [] [] []),0)
def iU:Nat->(aC->Option (aC))×((List aC)->Option ((List aC)))
 | 0=>(fun _=>none,fun _=>none)
 | n+1=>(OU (iU n).1 (iU n).2,Jy (iU n).1 (iU n).2)
def WS(a:aC):Option (aC):=(iU (siz a+1)).1 a
def afH:Fsp:=⟨134,[shT .val],[shT .val],true,false,fun x=>WS x⟩
def OT(n:Nat):Fsp:=⟨134,[shT .val],[shT .val],true,false,fun x=>(iU n).1 x⟩
def ahF(a:List aC):Option ((List aC)):=(iU (siz a+1)).2 a
def acr:Fsp:=⟨175,[slF .val],[slF .val],true,false,fun x=>ahF x⟩
def LK(n:Nat):Fsp:=⟨175,[slF .val],[slF .val],true,false,fun x=>(iU n).2 x⟩
def OX(a:aN):Option (aN):=(WS (dB a.result)).bind fun b=>some (aN.mk a.kind a.n a.time a.text (dB b))
def ahJ:Fsp:=⟨88,[shT .read],[shT .read],true,false,fun x=>OX x⟩
def Hl(a:List aN):Option ((List aN)):=(mk (a.length:Int)).bind fun c=>au (fun(⟨g,h,i⟩:(List aN)×(List aN)×Int)=>bif (decide (i<(g.length:Int)))then (idx g i).bind fun d=>(OX (iW d)).bind fun e=>(idx h i).bind fun _=>(h[i.toNat]?).bind fun f=>some (.inl (g,h.set i.toNat (iW e),w64 (i+1)))else some (.inr (h))) (a,List.replicate c (aN.mk 0 0 0 [] (aC.mk 0 0 0 [] [] [] [])),0)
def afM:Fsp:=⟨39,[slF .read],[slF .read],true,false,fun x=>Hl x⟩
def ZA(a:GOp):Option (GOp):=(WZ a.seen).bind fun b=>(W9 a.edit).bind fun c=>(Hl a.reads).bind fun d=>some (GOp.mk a.time a.by_ a.kind b c a.src a.dst a.cell a.version d)
def aoF:Fsp:=⟨10,[shT .op],[shT .op],true,false,fun x=>ZA x⟩
def OZ(a:List GOp):Option ((List GOp)):=(mk (a.length:Int)).bind fun c=>au (fun(⟨g,h,i⟩:(List GOp)×(List GOp)×Int)=>bif (decide (i<(g.length:Int)))then (idx g i).bind fun d=>(ZA d).bind fun e=>(idx h i).bind fun _=>(h[i.toNat]?).bind fun f=>some (.inl (g,h.set i.toNat e,w64 (i+1)))else some (.inr (h))) (a,List.replicate c (GOp.mk 0 0 0 [] (dZ.mk 0 0 (ah.mk 0 0 0 [] [] 0)) [] [] 0 0 []),0)
def akw:Fsp:=⟨11,[slF .op],[slF .op],true,false,fun x=>OZ x⟩
def Xb(a:List ah):Option ((List ah)):=(mk (a.length:Int)).bind fun c=>au (fun(⟨g,h,i⟩:(List ah)×(List ah)×Int)=>bif (decide (i<(g.length:Int)))then (idx g i).bind fun d=>(toCell d).bind fun e=>(idx h i).bind fun _=>(h[i.toNat]?).bind fun f=>some (.inl (g,h.set i.toNat e,w64 (i+1)))else some (.inr (h))) (a,List.replicate c (ah.mk 0 0 0 [] [] 0),0)
def afO:Fsp:=⟨85,[slF .cell],[slF .cell],true,false,fun x=>Xb x⟩
def yO(a:ak):Option (ak):=(Xb a.cells).bind fun b=>some (ak.mk b)
def WX:Fsp:=⟨35,[shT .notebook],[shT .notebook],true,false,fun x=>yO x⟩
def WU(a:aK):Option (aK):=(Hl a.reads).bind fun b=>some (aK.mk a.cell a.version b)
def ahG:Fsp:=⟨86,[shT .tape],[shT .tape],true,false,fun x=>WU x⟩
def WT(a:List aK):Option ((List aK)):=(mk (a.length:Int)).bind fun c=>au (fun(⟨g,h,i⟩:(List aK)×(List aK)×Int)=>bif (decide (i<(g.length:Int)))then (idx g i).bind fun d=>(WU d).bind fun e=>(idx h i).bind fun _=>(h[i.toNat]?).bind fun f=>some (.inl (g,h.set i.toNat e,w64 (i+1)))else some (.inr (h))) (a,List.replicate c (aK.mk 0 0 []),0)
def afJ:Fsp:=⟨36,[slF .tape],[slF .tape],true,false,fun x=>WT x⟩
def nI(a:aO):Option (aO):=(yO a.notebook).bind fun b=>(WT a.tapes).bind fun c=>(OZ a.renames).bind fun d=>some (aO.mk b c d)
def Xa:Fsp:=⟨9,[shT .document],[shT .document],true,false,fun x=>nI x⟩
def bT(a:ak):Option (ak):=(gd (0+a.cells.length)).bind fun _=>some (ak.mk ([]++a.cells))
def NW:Fsp:=⟨89,[shT .notebook],[shT .notebook],true,false,fun x=>bT x⟩
def yw(a:bD):Option (bD):=(gd (0+a.cells.length)).bind fun _=>(gd (0+a.orig.length)).bind fun _=>some (bD.mk ([]++a.cells) ([]++a.orig))
def ad7:Fsp:=⟨192,[shT .row],[shT .row],true,false,fun x=>yw x⟩
def qV(riCopyValue:aC->Option (aC))(riCopyValues:(List aC)->Option ((List aC)))(a:aC):Option (aC):=(riCopyValues a.list).bind fun d=>(gd (0+a.columns.length)).bind fun _=>au (fun(⟨f,g,h,i,j,k,l,m,o,p,q,r,s,t,u,v,w⟩:Int×Int×Int×Str×(List aC)×(List Str)×(List bD)×Int×Int×Int×Str×(List aC)×(List Str)×(List bD)×(List bD)×Int×Int)=>bif (decide (w<v))then (idx u w).bind fun e=>(yw e).bind fun c=>(gd (t.length+[c].length)).bind fun _=>some (.inl (f,g,h,i,j,k,l,m,o,p,q,r,s,t++[c],u,v,w64 (w+1)))else some (.inr (aC.mk m o p q r s t))) (0,0,0,[],[],[],[],a.kind,a.n,a.step,a.text,d,[]++a.columns,[],a.rows,(a.rows.length:Int),0)
def oU(riCopyValue:aC->Option (aC))(riCopyValues:(List aC)->Option ((List aC)))(a:List aC):Option ((List aC)):=au (fun(⟨e,f,g,h⟩:(List aC)×(List aC)×Int×Int)=>bif (decide (h<g))then (idx f h).bind fun d=>(riCopyValue (dB d)).bind fun c=>(gd (e.length+[dB c].length)).bind fun _=>some (.inl (e++[dB c],f,g,w64 (h+1)))else some (.inr (e))) ([],a,(a.length:Int),0)
def dF:Nat->(aC->Option (aC))×((List aC)->Option ((List aC)))
 | 0=>(fun _=>none,fun _=>none)
 | n+1=>(qV (dF n).1 (dF n).2,oU (dF n).1 (dF n).2)
def nS(a:aC):Option (aC):=(dF (siz a+1)).1 a
def YM:Fsp:=⟨149,[shT .val],[shT .val],true,false,fun x=>nS x⟩
def FB(n:Nat):Fsp:=⟨149,[shT .val],[shT .val],true,false,fun x=>(dF n).1 x⟩
def abj(a:List aC):Option ((List aC)):=(dF (siz a+1)).2 a
def UU:Fsp:=⟨191,[slF .val],[slF .val],true,false,fun x=>abj x⟩
def Df(n:Nat):Fsp:=⟨191,[slF .val],[slF .val],true,false,fun x=>(dF n).2 x⟩
def nT(a:List aN):Option ((List aN)):=au (fun(⟨e,f,g,h⟩:(List aN)×(List aN)×Int×Int)=>bif (decide (h<g))then (idx f h).bind fun c=>(nS (dB c.result)).bind fun d=>(gd (e.length+[aN.mk c.kind c.n c.time c.text (dB d)].length)).bind fun _=>some (.inl (e++[aN.mk c.kind c.n c.time c.text (dB d)],f,g,w64 (h+1)))else some (.inr (e))) ([],a,(a.length:Int),0)
def YO:Fsp:=⟨97,[slF .read],[slF .read],true,false,fun x=>nT x⟩
def zV(a:List aK):Option ((List aK)):=au (fun(⟨e,f,g,h⟩:(List aK)×(List aK)×Int×Int)=>bif (decide (h<g))then (idx f h).bind fun c=>(nT c.reads).bind fun d=>(gd (e.length+[aK.mk c.cell c.version d].length)).bind fun _=>some (.inl (e++[aK.mk c.cell c.version d],f,g,w64 (h+1)))else some (.inr (e))) ([],a,(a.length:Int),0)
def YN:Fsp:=⟨90,[slF .tape],[slF .tape],true,false,fun x=>zV x⟩
def Ew(a:GOp):Option (GOp):=(gd (0+a.seen.length)).bind fun _=>(nT a.reads).bind fun b=>some (GOp.mk a.time a.by_ a.kind ([]++a.seen) a.edit a.src a.dst a.cell a.version b)
def ag1:Fsp:=⟨46,[shT .op],[shT .op],true,false,fun x=>Ew x⟩
def I9(a:List GOp):Option ((List GOp)):=au (fun(⟨e,f,g,h⟩:(List GOp)×(List GOp)×Int×Int)=>bif (decide (h<g))then (idx f h).bind fun d=>(Ew d).bind fun c=>(gd (e.length+[c].length)).bind fun _=>some (.inl (e++[c],f,g,w64 (h+1)))else some (.inr (e))) ([],a,(a.length:Int),0)
def ad8:Fsp:=⟨91,[slF .op],[slF .op],true,false,fun x=>I9 x⟩
def mQ(a:aO):Option (aO):=(bT a.notebook).bind fun b=>(zV a.tapes).bind fun c=>(I9 a.renames).bind fun d=>some (aO.mk b c d)
def NZ:Fsp:=⟨40,[shT .document],[shT .document],true,false,fun x=>mQ x⟩
def gU(a:ak)(b:Int):Option (Int):=au (fun(⟨e,f,g,h⟩:Int×(List ah)×Int×Int)=>bif (decide (h<g))then (idx f h).bind fun d=>bif (d.id==e)then some (.inr (h))else some (.inl (e,f,g,w64 (h+1)))else some (.inr ((-1)))) (b,a.cells,(a.cells.length:Int),0)
def YS:Fsp:=⟨44,[shT .notebook,shF .int],[shF .int],true,false,fun x=>gU x.1 x.2⟩
def jr(a:Int)(b:Int)(c:Int):Option (Bool):=bif (decide (b<=a))then some ((decide (a<=c)))else some (false)
def agR:Fsp:=⟨93,[shF .int,shF .int,shF .int],[shF .bool],true,false,fun x=>jr x.1 x.2.1 x.2.2⟩
def IZ(a:Str):Option (Bool):=au (fun (b:Str×Int)=>bif (decide (b.2<(b.1.length:Int)))then (idx b.1 b.2).bind fun c=>bif (decide ((c.toNat:Int)>=97))then (idx b.1 b.2).bind fun d=>bif (!(decide ((d.toNat:Int)<=122)))then bif (b.2==0)then some (.inr (false))else (idx b.1 b.2).bind fun e=>bif (decide ((e.toNat:Int)<48))then some (.inr (false))else (idx b.1 b.2).bind fun f=>bif (decide ((f.toNat:Int)>57))then some (.inr (false))else some (.inl (b.1,w64 (b.2+1)))else some (.inl (b.1,w64 (b.2+1)))else bif (b.2==0)then some (.inr (false))else (idx b.1 b.2).bind fun g=>bif (decide ((g.toNat:Int)<48))then some (.inr (false))else (idx b.1 b.2).bind fun h=>bif (decide ((h.toNat:Int)>57))then some (.inr (false))else some (.inl (b.1,w64 (b.2+1)))else ((jr (b.1.length:Int) 1 8).bind fun i=>some (i)).bind fun r=>some (.inr r)) (a,0)
def agY:Fsp:=⟨188,[shF .str],[shF .bool],true,false,fun x=>IZ x⟩
def fG(a:Str):Option (Int):=bif (a==[99,108,111,99,107])then some (0)else bif (a==[108,101,110])then some (1)else bif (a==[115,117,109])then some (1)else bif (a==[114,111,119,115])then some (1)else bif (a==[99,104,97,110,99,101])then some (1)else bif (a==[102,105,108,101])then some (1)else bif (a==[116,97,107,101])then some (2)else bif (a==[115,107,105,112])then some (2)else bif (a==[114,97,110,103,101])then some (2)else bif (a==[110,116,104])then some (2)else bif (a==[107,101,101,112])then some (2)else bif (a==[99,111,108,117,109,110])then some (2)else bif (a==[116,97,98,108,101])then some (2)else bif (a==[119,104,101,114,101])then some (3)else bif (a==[103,114,111,117,112])then some (3)else bif (a==[106,111,105,110])then some (3)else bif (a==[97,100,100])then some (4)else some ((-1))
def KR:Fsp:=⟨244,[shF .str],[shF .int],true,false,fun x=>fG x⟩
def oz(a:Str):Option (Bool):=bif (a==[108,101,116])then some (true)else bif (a==[105,110])then some (true)else bif (a==[105,102])then some (true)else bif (a==[116,104,101,110])then some (true)else bif (a==[101,108,115,101])then some (true)else bif (a==[102,111,114])then some (true)else bif (a==[100,111])then some (true)else (fG a).bind fun b=>some ((decide (b>=0)))
def UM:Fsp:=⟨189,[shF .str],[shF .bool],true,false,fun x=>oz x⟩
def bH(a:Str):Option (Bool):=(IZ a).bind fun b=>bif b then (oz a).bind fun c=>some ((!c))else some (false)
def Rz:Fsp:=⟨144,[shF .str],[shF .bool],true,false,fun x=>bH x⟩
def oQ(a:Str):Option (Bool):=au (fun (b:Str×Int)=>bif (decide (b.2<(b.1.length:Int)))then (idx b.1 b.2).bind fun c=>bif (decide ((c.toNat:Int)<32))then some (.inr (false))else (idx b.1 b.2).bind fun d=>bif (decide ((d.toNat:Int)>126))then some (.inr (false))else some (.inl (b.1,w64 (b.2+1)))else some (.inr ((decide ((b.1.length:Int)<=120))))) (a,0)
def RH:Fsp:=⟨178,[shF .str],[shF .bool],true,false,fun x=>oQ x⟩
def cO(a:ah):Option (Bool):=(jr a.id 1 999).bind fun b=>bif (!b)then some (false)else (jr a.version 1 999).bind fun c=>bif (!c)then some (false)else (oQ a.code).bind fun d=>bif (!d)then some (false)else bif (a.kind==1)then bif (a.name==[])then some ((a.n==0))else some (false)else bif (a.kind==2)then (bH a.name).bind fun e=>bif e then some ((a.n==0))else some (false)else bif (a.kind==4)then (bH a.name).bind fun f=>bif f then some ((a.n==0))else some (false)else bif (a.kind==3)then (bH a.name).bind fun g=>bif g then bif (a.code==[])then (jr a.n 0 100).bind fun h=>some (h)else some (false)else some (false)else some (false)
def RG:Fsp:=⟨135,[shT .cell],[shF .bool],true,false,fun x=>cO x⟩
def fK(a:ak):Option (Bool):=au (fun(⟨f,g,h,i⟩:(List ah)×(List ah)×Int×Int)=>bif (decide (i<h))then (idx g i).bind fun c=>(cO c).bind fun d=>bif (!d)then some (.inr (false))else (gU (ak.mk f) c.id).bind fun e=>bif (e != i)then some (.inr (false))else some (.inl (f,g,h,w64 (i+1)))else some (.inr ((decide ((f.length:Int)<=8))))) (a.cells,a.cells,(a.cells.length:Int),0)
def GU:Fsp:=⟨92,[shT .notebook],[shF .bool],true,false,fun x=>fK x⟩
def yt(a:List ah)(b:Int)(c:ah):Option ((List ah)):=(eff.cutL a none (some (if (if (a.length:Int)<b then (a.length:Int)else b)>0 then (if (a.length:Int)<b then (a.length:Int)else b)else 0))).bind fun d=>(gd (0+d.length)).bind fun _=>(gd (([]++d).length+[c].length)).bind fun _=>(eff.cutL a (some (if (if (a.length:Int)<b then (a.length:Int)else b)>0 then (if (a.length:Int)<b then (a.length:Int)else b)else 0)) none).bind fun e=>(gd ((([]++d)++[c]).length+e.length)).bind fun _=>some ((([]++d)++[c])++e)
def abe:Fsp:=⟨136,[slF .cell,shF .int,shT .cell],[slF .cell],true,false,fun x=>yt x.1 x.2.1 x.2.2⟩
def CJ(a:List ah)(b:Int):Option ((List ah)):=(eff.cutL a none (some b)).bind fun c=>(gd (0+c.length)).bind fun _=>(eff.cutL a (some (w64 (b+1))) none).bind fun d=>(gd (([]++c).length+d.length)).bind fun _=>some (([]++c)++d)
def adX:Fsp:=⟨137,[slF .cell,shF .int],[slF .cell],true,false,fun x=>CJ x.1 x.2⟩
def YR(a:ak)(b:dZ):Option (ak×Int):=(gU a b.cell.id).bind fun d=>bif (b.kind==1)then (cO b.cell).bind fun w=>bif (!w)then some (a,1)else bif (decide (d>=0))then some (a,3)else bif (decide ((a.cells.length:Int)>=8))then some (a,4)else (yt a.cells b.pos b.cell).bind fun x=>some (ak.mk x,0)else bif (decide (d<0))then some (a,2)else (idx a.cells d).bind fun c=>bif (b.kind==2)then (CJ a.cells d).bind fun y=>some (ak.mk y,0)else bif (b.kind==3)then (CJ a.cells d).bind fun z=>(yt z b.pos c).bind fun A=>some (ak.mk A,0)else bif (b.kind==5)then bif (c.kind != 3)then some (a,5)else (cO (ah.mk c.id c.version c.kind c.name c.code b.cell.n)).bind fun B=>bif (!B)then some (a,1)else (bT a).bind fun m=>(idx m.cells d).bind fun _=>(m.cells[d.toNat]?).bind fun C=>some (ak.mk (m.cells.set d.toNat (ah.mk c.id c.version c.kind c.name c.code b.cell.n)),0)else bif (b.kind==4)then bif (c.kind==3)then some (a,5)else bif (b.kind==6)then bif (c.kind != 2)then some (a,5)else bif (decide (c.version>=999))then some (a,6)else bif (b.kind==4)then (cO (ah.mk c.id (w64 (c.version+1)) c.kind b.cell.name b.cell.code c.n)).bind fun o=>bif (!o)then some (a,1)else (bT a).bind fun e=>(idx e.cells d).bind fun _=>(e.cells[d.toNat]?).bind fun D=>some (ak.mk (e.cells.set d.toNat (ah.mk c.id (w64 (c.version+1)) c.kind b.cell.name b.cell.code c.n)),0)else (cO (ah.mk c.id (w64 (c.version+1)) c.kind c.name c.code c.n)).bind fun p=>bif (!p)then some (a,1)else (bT a).bind fun f=>(idx f.cells d).bind fun _=>(f.cells[d.toNat]?).bind fun E=>some (ak.mk (f.cells.set d.toNat (ah.mk c.id (w64 (c.version+1)) c.kind c.name c.code c.n)),0)else bif (decide (c.version>=999))then some (a,6)else bif (b.kind==4)then (cO (ah.mk c.id (w64 (c.version+1)) c.kind b.cell.name b.cell.code c.n)).bind fun q=>bif (!q)then some (a,1)else (bT a).bind fun g=>(idx g.cells d).bind fun _=>(g.cells[d.toNat]?).bind fun F=>some (ak.mk (g.cells.set d.toNat (ah.mk c.id (w64 (c.version+1)) c.kind b.cell.name b.cell.code c.n)),0)else (cO (ah.mk c.id (w64 (c.version+1)) c.kind c.name c.code c.n)).bind fun r=>bif (!r)then some (a,1)else (bT a).bind fun h=>(idx h.cells d).bind fun _=>(h.cells[d.toNat]?).bind fun G=>some (ak.mk (h.cells.set d.toNat (ah.mk c.id (w64 (c.version+1)) c.kind c.name c.code c.n)),0)else bif (b.kind==6)then bif (c.kind != 2)then some (a,5)else bif (decide (c.version>=999))then some (a,6)else bif (b.kind==4)then (cO (ah.mk c.id (w64 (c.version+1)) c.kind b.cell.name b.cell.code c.n)).bind fun s=>bif (!s)then some (a,1)else (bT a).bind fun i=>(idx i.cells d).bind fun _=>(i.cells[d.toNat]?).bind fun H=>some (ak.mk (i.cells.set d.toNat (ah.mk c.id (w64 (c.version+1)) c.kind b.cell.name b.cell.code c.n)),0)else (cO (ah.mk c.id (w64 (c.version+1)) c.kind c.name c.code c.n)).bind fun t=>bif (!t)then some (a,1)else (bT a).bind fun j=>(idx j.cells d).bind fun _=>(j.cells[d.toNat]?).bind fun I=>some (ak.mk (j.cells.set d.toNat (ah.mk c.id (w64 (c.version+1)) c.kind c.name c.code c.n)),0)else bif (decide (c.version>=999))then some (a,6)else bif (b.kind==4)then (cO (ah.mk c.id (w64 (c.version+1)) c.kind b.cell.name b.cell.code c.n)).bind fun u=>bif (!u)then some (a,1)else (bT a).bind fun k=>(idx k.cells d).bind fun _=>(k.cells[d.toNat]?).bind fun J=>some (ak.mk (k.cells.set d.toNat (ah.mk c.id (w64 (c.version+1)) c.kind b.cell.name b.cell.code c.n)),0)else (cO (ah.mk c.id (w64 (c.version+1)) c.kind c.name c.code c.n)).bind fun v=>bif (!v)then some (a,1)else (bT a).bind fun l=>(idx l.cells d).bind fun _=>(l.cells[d.toNat]?).bind fun K=>some (ak.mk (l.cells.set d.toNat (ah.mk c.id (w64 (c.version+1)) c.kind c.name c.code c.n)),0)
def ag2:Fsp:=⟨94,[shT .notebook,shT .edit],[shT .notebook,shF .int],false,false,fun x=>YR x.1 x.2⟩
def uM(a:ak)(b:dZ):Option (ak×Int):=(fK a).bind fun d=>bif (!d)then (bT a).bind fun e=>some (e,1)else (jr b.kind 1 6).bind fun f=>bif (!f)then (bT a).bind fun g=>some (g,1)else (YR a b).bind fun c=>(bT c.1).bind fun h=>some (h,c.2)
def YT:Fsp:=⟨41,[shT .notebook,shT .edit],[shT .notebook,shF .int],true,false,fun x=>uM x.1 x.2⟩
def mF(a:Str)(b c:Int):Option (Int×Bool):=qP a b c
def ajy:Fsp:=⟨264,[shF .str,shF .int,shF .int],[shF .int,shF .bool],true,false,fun x=>mF x.1 x.2.1 x.2.2⟩
def QT:Fsp:=⟨265,[shF .str,shF .u8],[shF .int],true,false,fun x=>dX x.1 x.2⟩
def gY(a:Str):Option (Bool):=au (fun (b:Str×Int)=>bif (decide (b.2<(b.1.length:Int)))then (idx b.1 b.2).bind fun c=>bif (decide ((c.toNat:Int)<32))then some (.inr (false))else (idx b.1 b.2).bind fun d=>bif (decide ((d.toNat:Int)>126))then some (.inr (false))else (idx b.1 b.2).bind fun e=>bif ((e.toNat:Int)==34)then some (.inr (false))else some (.inl (b.1,w64 (b.2+1)))else some (.inr ((decide ((b.1.length:Int)<=20))))) (a,0)
def Ry:Fsp:=⟨266,[shF .str],[shF .bool],true,false,fun x=>gY x⟩
def QU:Fsp:=⟨267,[shF .str,shF .str],[shF .bool],true,false,fun x=>jo x.1 x.2⟩
def jv(a:Str)(b:Int):Option (aJ×Int×Bool):=(idx a b).bind fun f=>bif (decide ((f.toNat:Int)>=97))then bif (decide ((f.toNat:Int)<=122))then au (fun(⟨aa,ac,ae,al,aq,ar,aw⟩:Str×Int×Int×Int×Int×Str×Int)=>bif (decide (aw<(aa.length:Int)))then (idx aa aw).bind fun c3=>bif (decide ((c3.toNat:Int)>=97))then (idx aa aw).bind fun c4=>bif (decide ((c4.toNat:Int)<=122))then some (.inl (aa,ac,ae,al,aq,ar,w64 (aw+1)))else (idx aa aw).bind fun c5=>bif (decide ((c5.toNat:Int)>=48))then (idx aa aw).bind fun c6=>bif (decide ((c6.toNat:Int)<=57))then some (.inl (aa,ac,ae,al,aq,ar,w64 (aw+1)))else ((eff.cutL aa (some ac) (some aw)).bind fun r7=>some (aJ.mk 1 0 ac r7,aw,(decide ((w64 (aw-ac))<=8)))).bind fun r=>some (.inr r)else ((eff.cutL aa (some ac) (some aw)).bind fun r8=>some (aJ.mk 1 0 ac r8,aw,(decide ((w64 (aw-ac))<=8)))).bind fun r=>some (.inr r)else (idx aa aw).bind fun c9=>bif (decide ((c9.toNat:Int)>=48))then (idx aa aw).bind fun v=>bif (decide ((v.toNat:Int)<=57))then some (.inl (aa,ac,ae,al,aq,ar,w64 (aw+1)))else ((eff.cutL aa (some ac) (some aw)).bind fun w=>some (aJ.mk 1 0 ac w,aw,(decide ((w64 (aw-ac))<=8)))).bind fun r=>some (.inr r)else ((eff.cutL aa (some ac) (some aw)).bind fun x=>some (aJ.mk 1 0 ac x,aw,(decide ((w64 (aw-ac))<=8)))).bind fun r=>some (.inr r)else ((eff.cutL aa (some ac) (some aw)).bind fun y=>some (aJ.mk 1 0 ac y,aw,(decide ((w64 (aw-ac))<=8)))).bind fun r=>some (.inr r)) (a,b,0,0,0,[],b)else bif (decide ((f.toNat:Int)>=48))then bif (decide ((f.toNat:Int)<=57))then au (fun(⟨c,az,aD,aE,aL,aM,aR⟩:Str×Int×Int×Int×Int×Str×Int)=>bif (decide (aR<(c.length:Int)))then (idx c aR).bind fun z=>bif (decide ((z.toNat:Int)>=48))then (idx c aR).bind fun A=>bif (decide ((A.toNat:Int)<=57))then some (.inl (c,az,aD,aE,aL,aM,w64 (aR+1)))else ((eff.cutL c (some az) (some aR)).bind fun B=>(mF B 0 1000000000).bind fun k=>some (aJ.mk 2 k.1 az [],aR,k.2)).bind fun r=>some (.inr r)else ((eff.cutL c (some az) (some aR)).bind fun C=>(mF C 0 1000000000).bind fun l=>some (aJ.mk 2 l.1 az [],aR,l.2)).bind fun r=>some (.inr r)else ((eff.cutL c (some az) (some aR)).bind fun D=>(mF D 0 1000000000).bind fun m=>some (aJ.mk 2 m.1 az [],aR,m.2)).bind fun r=>some (.inr r)) (a,b,0,0,0,[],b)else bif ((f.toNat:Int)==34)then (eff.cutL a (some (w64 (b+1))) none).bind fun E=>(dX E 34).bind fun g=>bif (decide (g<0))then some (aJ.mk 0 0 0 [],0,false)else (eff.cutL a (some (w64 (b+1))) (some (w64 ((w64 (b+1))+g)))).bind fun n=>(gY n).bind fun F=>some (aJ.mk 3 0 b n,w64 ((w64 (b+g))+2),F)else (eff.cutL a (some b) none).bind fun G=>(jo G [61,61]).bind fun H=>bif H then some (aJ.mk 4 0 b [61,61],w64 (b+2),true)else (eff.cutL a (some b) (some (w64 (b+1)))).bind fun I=>(dX [40,41,91,93,44,43,45,42,60,61] (f.toNat:Int)).bind fun J=>some (aJ.mk 4 0 b I,w64 (b+1),(decide (J>=0)))else bif ((f.toNat:Int)==34)then (eff.cutL a (some (w64 (b+1))) none).bind fun K=>(dX K 34).bind fun h=>bif (decide (h<0))then some (aJ.mk 0 0 0 [],0,false)else (eff.cutL a (some (w64 (b+1))) (some (w64 ((w64 (b+1))+h)))).bind fun o=>(gY o).bind fun L=>
    some (aJ.mk 3 0 b o,w64 ((w64 (b+h))+2),L)
  else
   (eff.cutL a (some b) none).bind fun M=>
   (jo M [61,61]).bind fun N=>
   bif N then
    some (aJ.mk 4 0 b [61,61],w64 (b+2),true)
   else
    (eff.cutL a (some b) (some (w64 (b+1)))).bind fun O=>
    (dX [40,41,91,93,44,43,45,42,60,61] (f.toNat:Int)).bind fun P=>
    some (aJ.mk 4 0 b O,w64 (b+1),(decide (P>=0)))
 else
 bif (decide ((f.toNat:Int)>=48))then
  bif (decide ((f.toNat:Int)<=57))then
   au (fun(⟨d,ba,bc,bh,bj,bl,bm⟩:Str×Int×Int×Int×Int×Str×Int)=>
    bif (decide (bm<(d.length:Int)))then
     (idx d bm).bind fun Q=>
     bif (decide ((Q.toNat:Int)>=48))then
      (idx d bm).bind fun R=>
      bif (decide ((R.toNat:Int)<=57))then
       some (.inl (d,ba,bc,bh,bj,bl,w64 (bm+1)))
      else
       (
        (eff.cutL d (some ba) (some bm)).bind fun S=>
        (mF S 0 1000000000).bind fun p=>
        some (aJ.mk 2 p.1 ba [],bm,p.2)
       ).bind fun r=>some (.inr r)
     else
      (
       (eff.cutL d (some ba) (some bm)).bind fun T=>
       (mF T 0 1000000000).bind fun q=>
       some (aJ.mk 2 q.1 ba [],bm,q.2)
      ).bind fun r=>some (.inr r)
    else
     (
      (eff.cutL d (some ba) (some bm)).bind fun U=>
      (mF U 0 1000000000).bind fun s=>
      some (aJ.mk 2 s.1 ba [],bm,s.2)
     ).bind fun r=>some (.inr r)
   ) (a,b,0,0,0,[],b)
  else
  bif ((f.toNat:Int)==34)then
   (eff.cutL a (some (w64 (b+1))) none).bind fun V=>
   (dX V 34).bind fun i=>
   bif (decide (i<0))then
    some (aJ.mk 0 0 0 [],0,false)
   else
    (eff.cutL a (some (w64 (b+1))) (some (w64 ((w64 (b+1))+i)))).bind fun t=>
    (gY t).bind fun W=>
    some (aJ.mk 3 0 b t,w64 ((w64 (b+i))+2),W)
  else
   (eff.cutL a (some b) none).bind fun X=>
   (jo X [61,61]).bind fun Y=>
   bif Y then
    some (aJ.mk 4 0 b [61,61],w64 (b+2),true)
   else
    (eff.cutL a (some b) (some (w64 (b+1)))).bind fun Z=>
    (dX [40,41,91,93,44,43,45,42,60,61] (f.toNat:Int)).bind fun r55=>
    some (aJ.mk 4 0 b Z,w64 (b+1),(decide (r55>=0)))
 else
 bif ((f.toNat:Int)==34)then
  (eff.cutL a (some (w64 (b+1))) none).bind fun r56=>
  (dX r56 34).bind fun j=>
  bif (decide (j<0))then
   some (aJ.mk 0 0 0 [],0,false)
  else
   (eff.cutL a (some (w64 (b+1))) (some (w64 ((w64 (b+1))+j)))).bind fun u=>
   (gY u).bind fun r59=>
   some (aJ.mk 3 0 b u,w64 ((w64 (b+j))+2),r59)
 else
  (eff.cutL a (some b) none).bind fun r60=>
  (jo r60 [61,61]).bind fun r61=>
  bif r61 then
   some (aJ.mk 4 0 b [61,61],w64 (b+2),true)
  else
   (eff.cutL a (some b) (some (w64 (b+1)))).bind fun r62=>
   (dX [40,41,91,93,44,43,45,42,60,61] (f.toNat:Int)).bind fun r63=>
   some (aJ.mk 4 0 b r62,w64 (b+1),(decide (r63>=0)))
def adS:Fsp:=⟨222,[shF .str,shF .int],[shT .token,shF .int,shF .bool],true,false,fun x=>jv x.1 x.2⟩
def xW(a:Str):Option ((List aJ)×Int):=bif (decide ((a.length:Int)>120))then some ([],120)else au (fun(⟨e,f,g⟩:Str×(List aJ)×Int)=>bif (decide (g<(e.length:Int)))then (idx e g).bind fun d=>bif ((d.toNat:Int)==32)then some (.inl (e,f,w64 (g+1)))else (jv e g).bind fun c=>bif (!c.2.2)then some (.inr ([],g))else bif ((f.length:Int)==60)then some (.inr ([],g))else (gd (f.length+[c.1].length)).bind fun _=>some (.inl (e,f++[c.1],c.2.1))else some (.inr (f,(-1)))) (a,[],0)
def aa1:Fsp:=⟨179,[shF .str],[slF .token,shF .int],true,false,fun x=>xW x⟩
def jF(a:aJ)(b:Str):Option (Bool):=bif (a.kind==1)then some ((a.text==b))else some (false)
def YH:Fsp:=⟨223,[shT .token,shF .str],[shF .bool],true,false,fun x=>jF x.1 x.2⟩
def fD(a:aW):Option (aW×aJ):=bif (decide (a.bad<0))then bif (decide (a.i<(a.toks.length:Int)))then (idx a.toks a.i).bind fun b=>some (a,b)else some (a,aJ.mk 0 0 0 [])else some (a,aJ.mk 0 0 0 [])
def UF:Fsp:=⟨224,[shT .psr],[shT .psr,shT .token],false,false,fun x=>fD x⟩
def iw(a:aW):Option (aW×af):=bif (decide (a.bad<0))then some (aW.mk a.toks a.i a.i,af.mk 0 0 [] [])else some (a,af.mk 0 0 [] [])
def UI:Fsp:=⟨268,[shT .psr],[shT .psr,shT .expr],false,true,fun x=>iw x⟩
def lF(a:aW):Option (aW×Str):=(fD a).bind fun b=>bif (b.2.kind != 1)then (iw b.1).bind fun c=>some (c.1,[])else (bH b.2.text).bind fun d=>bif (!d)then (iw b.1).bind fun e=>some (e.1,[])else some (aW.mk b.1.toks (w64 (b.1.i+1)) b.1.bad,b.2.text)
def UH:Fsp:=⟨225,[shT .psr],[shT .psr,shF .str],false,false,fun x=>lF x⟩
def yj(a:aJ)(b:Str):Option (Bool):=bif (a.kind==4)then some ((a.text==b))else some (false)
def abb:Fsp:=⟨269,[shT .token,shF .str],[shF .bool],true,false,fun x=>yj x.1 x.2⟩
def bV(a:aW)(b:Str):Option (aW):=(fD a).bind fun c=>(jF c.2 b).bind fun e=>bif e then some (aW.mk c.1.toks (w64 (c.1.i+1)) c.1.bad)else (fD c.1).bind fun d=>(yj d.2 b).bind fun f=>bif f then some (aW.mk d.1.toks (w64 (d.1.i+1)) d.1.bad)else (iw d.1).bind fun g=>some (g.1)
def UG:Fsp:=⟨226,[shT .psr,shF .str],[shT .psr],false,false,fun x=>bV x.1 x.2⟩
def bn(a:aW)(b:Str):Option (aW×Bool):=(fD a).bind fun c=>(yj c.2 b).bind fun d=>bif d then some (aW.mk c.1.toks (w64 (c.1.i+1)) c.1.bad,true)else some (c.1,false)
def NS:Fsp:=⟨228,[shT .psr,shF .str],[shT .psr,shF .bool],false,false,fun x=>bn x.1 x.2⟩
def tC(a:Int):Option (Str):=(jr a 1 5).bind fun b=>bif (!b)then some ([63])else (idx ([[43],[45],[42],[60],[61,61]]:List Str) (w64 (a-1))).bind fun _=>(([[43],[45],[42],[60],[61,61]]:List Str)[(w64 (a-1)).toNat]?).bind fun c=>some (c)
def aa7:Fsp:=⟨229,[shF .int],[shF .str],true,false,fun x=>tC x⟩
def zQ(riParserExpr:aW->Option (aW×af))(riParserSum:aW->Option (aW×af))(riParserProduct:aW->Option (aW×af))(riParserAtom:aW->Option (aW×af))(riParserList2:aW->Str->Option (aW×(List af)))(a:aW):Option (aW×af):=(fD a).bind fun l=>(jF l.2 [108,101,116]).bind fun A=>bif A then (lF (aW.mk l.1.toks (w64 (l.1.i+1)) l.1.bad)).bind fun z=>(bV z.1 [61]).bind fun B=>(riParserExpr B).bind fun r=>(gd ([aj r.2].length)).bind fun _=>(bV r.1 [105,110]).bind fun C=>(riParserExpr C).bind fun s=>(gd ([aj r.2].length+[aj s.2].length)).bind fun _=>some (s.1,af.mk 7 0 z.2 ([aj r.2]++[aj s.2]))else (fD l.1).bind fun m=>(jF m.2 [105,102]).bind fun D=>bif D then (riParserExpr (aW.mk m.1.toks (w64 (m.1.i+1)) m.1.bad)).bind fun d=>(gd ([aj d.2].length)).bind fun _=>(bV d.1 [116,104,101,110]).bind fun t=>(riParserExpr t).bind fun g=>(gd ([aj d.2].length+[aj g.2].length)).bind fun _=>(bV g.1 [101,108,115,101]).bind fun u=>(riParserExpr u).bind fun j=>(gd (([aj d.2]++[aj g.2]).length+[aj j.2].length)).bind fun _=>some (j.1,af.mk 8 0 [] (([aj d.2]++[aj g.2])++[aj j.2]))else (fD m.1).bind fun e=>(jF e.2 [102,111,114]).bind fun v=>bif v then (lF (aW.mk e.1.toks (w64 (e.1.i+1)) e.1.bad)).bind fun o=>(bV o.1 [105,110]).bind fun w=>(riParserExpr w).bind fun h=>(gd ([aj h.2].length)).bind fun _=>(bV h.1 [100,111]).bind fun x=>(riParserExpr x).bind fun k=>(gd ([aj h.2].length+[aj k.2].length)).bind fun _=>some (k.1,af.mk 9 0 o.2 ([aj h.2]++[aj k.2]))else (riParserSum e.1).bind fun c=>au (fun(⟨E,F,G,H,I,J,K,L,M,N,O,P,Q,R⟩:(List aJ)×Int×Int×Int×Int×Str×(List af)×Int×Int×Str×(List af)×(List Int)×Int×Int)=>bif (decide (R<Q))then (idx P R).bind fun _=>(P[R.toNat]?).bind fun p=>(tC p).bind fun y=>(bn (aW.mk E F G) y).bind fun f=>bif f.2 then (riParserSum f.1).bind fun q=>some (.inr (q.1,af.mk 6 p [] [af.mk L M N O,aj q.2]))else some (.inl (f.1.toks,f.1.i,f.1.bad,H,I,J,K,L,M,N,O,P,Q,w64 (R+1)))else some (.inr (aW.mk E F G,af.mk L M N O))) (c.1.toks,c.1.i,c.1.bad,0,0,[],[],c.2.kind,c.2.n,c.2.text,c.2.args,[4,5],([4,5].length:Int),0)
def CO(riParserExpr:aW->Option (aW×af))(riParserSum:aW->Option (aW×af))(riParserProduct:aW->Option (aW×af))(riParserAtom:aW->Option (aW×af))(riParserList2:aW->Str->Option (aW×(List af)))(a:aW):Option (aW×af):=(riParserProduct a).bind fun c=>au (fun(⟨h,j,k,l,m,o,p,q,r,s,t⟩:(List aJ)×Int×Int×Int×Int×Str×(List af)×Int×Int×Str×(List af))=>bif (decide (k<0))then (bn (aW.mk h j k) [43]).bind fun f=>bif (!f.2)then (bn f.1 [45]).bind fun g=>bif (!g.2)then some (.inr (g.1,af.mk q r s t))else (riParserProduct g.1).bind fun d=>some (.inl (d.1.toks,d.1.i,d.1.bad,l,m,o,p,6,2,[],[af.mk q r s t,aj d.2]))else (riParserProduct f.1).bind fun e=>some (.inl (e.1.toks,e.1.i,e.1.bad,l,m,o,p,6,1,[],[af.mk q r s t,aj e.2]))else some (.inr (aW.mk h j k,af.mk q r s t))) (c.1.toks,c.1.i,c.1.bad,0,0,[],[],c.2.kind,c.2.n,c.2.text,c.2.args)
def rE(riParserExpr:aW->Option (aW×af))(riParserSum:aW->Option (aW×af))(riParserProduct:aW->Option (aW×af))(riParserAtom:aW->Option (aW×af))(riParserList2:aW->Str->Option (aW×(List af)))(a:aW):Option (aW×af):=(riParserAtom a).bind fun c=>au (fun(⟨f,g,h,j,k,l,m,o,p,q,r⟩:(List aJ)×Int×Int×Int×Int×Str×(List af)×Int×Int×Str×(List af))=>(bn (aW.mk f g h) [42]).bind fun e=>bif e.2 then (riParserAtom e.1).bind fun d=>some (.inl (d.1.toks,d.1.i,d.1.bad,j,k,l,m,6,3,[],[af.mk o p q r,aj d.2]))else some (.inr (e.1,af.mk o p q r))) (c.1.toks,c.1.i,c.1.bad,0,0,[],[],c.2.kind,c.2.n,c.2.text,c.2.args)
def sF(riParserExpr:aW->Option (aW×af))(riParserSum:aW->Option (aW×af))(riParserProduct:aW->Option (aW×af))(riParserAtom:aW->Option (aW×af))(riParserList2:aW->Str->Option (aW×(List af)))(a:aW):Option (aW×af):=(fD a).bind fun b=>bif (b.2.kind==2)then some (aW.mk b.1.toks (w64 (b.1.i+1)) b.1.bad,af.mk 1 b.2.n [] [])else bif (b.2.kind==3)then some (aW.mk b.1.toks (w64 (b.1.i+1)) b.1.bad,af.mk 2 0 b.2.text [])else bif (b.2.kind==1)then (bH b.2.text).bind fun G=>bif G then some (aW.mk b.1.toks (w64 (b.1.i+1)) b.1.bad,af.mk 3 0 b.2.text [])else bif (b.2.kind==1)then (fG b.2.text).bind fun H=>bif (decide (H>=0))then (bV (aW.mk b.1.toks (w64 (b.1.i+1)) b.1.bad) [40]).bind fun I=>(riParserList2 I [41]).bind fun D=>some (D.1,af.mk 5 0 b.2.text D.2)else (bn b.1 [91]).bind fun v=>bif v.2 then (riParserList2 v.1 [93]).bind fun E=>some (E.1,af.mk 4 0 [] E.2)else (bn v.1 [40]).bind fun w=>bif w.2 then (riParserExpr w.1).bind fun F=>(bV F.1 [41]).bind fun x=>some (x,aj F.2)else (iw w.1).bind fun j=>some (j.1,aj j.2)else (bn b.1 [91]).bind fun c=>bif c.2 then (riParserList2 c.1 [93]).bind fun k=>some (k.1,af.mk 4 0 [] k.2)else (bn c.1 [40]).bind fun d=>bif d.2 then (riParserExpr d.1).bind fun l=>(bV l.1 [41]).bind fun y=>some (y,aj l.2)else (iw d.1).bind fun m=>some (m.1,aj m.2)else bif (b.2.kind==1)then (fG b.2.text).bind fun z=>bif (decide (z>=0))then (bV (aW.mk b.1.toks (w64 (b.1.i+1)) b.1.bad) [40]).bind fun A=>(riParserList2 A [41]).bind fun o=>some (o.1,af.mk 5 0 b.2.text o.2)else (bn b.1 [91]).bind fun e=>bif e.2 then (riParserList2 e.1 [93]).bind fun p=>some (p.1,af.mk 4 0 [] p.2)else (bn e.1 [40]).bind fun f=>bif f.2 then (riParserExpr f.1).bind fun q=>(bV q.1 [41]).bind fun B=>some (B,aj q.2)else (iw f.1).bind fun r=>some (r.1,aj r.2)else (bn b.1 [91]).bind fun g=>bif g.2 then (riParserList2 g.1 [93]).bind fun s=>some (s.1,af.mk 4 0 [] s.2)else (bn g.1 [40]).bind fun h=>bif h.2 then (riParserExpr h.1).bind fun t=>(bV t.1 [41]).bind fun C=>some (C,aj t.2)else (iw h.1).bind fun u=>some (u.1,aj u.2)
def mP(riParserExpr:aW->Option (aW×af))(riParserSum:aW->Option (aW×af))(riParserProduct:aW->Option (aW×af))(riParserAtom:aW->Option (aW×af))(riParserList2:aW->Str->Option (aW×(List af)))(a:aW)(b:Str):Option (aW×(List af)):=(bn a b).bind fun d=>bif d.2 then some (d.1,[])else au (fun(⟨h,j,k,l,m⟩:(List aJ)×Int×Int×Str×(List af))=>bif (decide (k<0))then (riParserExpr (aW.mk h j k)).bind fun e=>(gd (m.length+[aj e.2].length)).bind fun _=>(bn e.1 l).bind fun f=>bif f.2 then some (.inr (f.1,m++[aj e.2]))else (bV f.1 [44]).bind fun g=>some (.inl (g.toks,g.i,g.bad,l,m++[aj e.2]))else some (.inr (aW.mk h j k,m))) (d.1.toks,d.1.i,d.1.bad,b,[])
def aF:Nat->(aW->Option (aW×af))×(aW->Option (aW×af))×(aW->Option (aW×af))×(aW->Option (aW×af))×(aW->Str->Option (aW×(List af)))
 | 0=>(fun _=>none,fun _=>none,fun _=>none,fun _=>none,fun _ _=>none)
 | n+1=>(zQ (aF n).1 (aF n).2.1 (aF n).2.2.1 (aF n).2.2.2.1 (aF n).2.2.2.2,CO (aF n).1 (aF n).2.1 (aF n).2.2.1 (aF n).2.2.2.1 (aF n).2.2.2.2,rE (aF n).1 (aF n).2.1 (aF n).2.2.1 (aF n).2.2.2.1 (aF n).2.2.2.2,sF (aF n).1 (aF n).2.1 (aF n).2.2.1 (aF n).2.2.2.1 (aF n).2.2.2.2,mP (aF n).1 (aF n).2.1 (aF n).2.2.1 (aF n).2.2.2.1 (aF n).2.2.2.2)
def CS(a:aW):Option (aW×af):=(aF (siz a+1)).1 a
def UJ:Fsp:=⟨180,[shT .psr],[shT .psr,shT .expr],false,false,fun x=>CS x⟩
def CQ(n:Nat):Fsp:=⟨180,[shT .psr],[shT .psr,shT .expr],false,false,fun x=>(aF n).1 x⟩
def adZ(a:aW):Option (aW×af):=(aF (siz a+1)).2.1 a
def YA:Fsp:=⟨227,[shT .psr],[shT .psr,shT .expr],false,false,fun x=>adZ x⟩
def Fj(n:Nat):Fsp:=⟨227,[shT .psr],[shT .psr,shT .expr],false,false,fun x=>(aF n).2.1 x⟩
def Ru(a:aW):Option (aW×af):=(aF (siz a+1)).2.2.1 a
def KL:Fsp:=⟨270,[shT .psr],[shT .psr,shT .expr],false,false,fun x=>Ru x⟩
def vP(n:Nat):Fsp:=⟨270,[shT .psr],[shT .psr,shT .expr],false,false,fun x=>(aF n).2.2.1 x⟩
def aa6(a:aW):Option (aW×af):=(aF (siz a+1)).2.2.2.1 a
def UK:Fsp:=⟨292,[shT .psr],[shT .psr,shT .expr],false,false,fun x=>aa6 x⟩
def CU(n:Nat):Fsp:=⟨292,[shT .psr],[shT .psr,shT .expr],false,false,fun x=>(aF n).2.2.2.1 x⟩
def YB(a:aW)(b:Str):Option (aW×(List af)):=(aF (siz a+1)).2.2.2.2 a b
def Rw:Fsp:=⟨310,[shT .psr,shF .str],[shT .psr,slF .expr],false,false,fun x=>YB x.1 x.2⟩
def AA(n:Nat):Fsp:=⟨310,[shT .psr,shF .str],[shT .psr,slF .expr],false,false,fun x=>(aF n).2.2.2.2 x.1 x.2⟩
def CV(riNodeCount:af->Option (Int))(a:af):Option (Int):=au (fun(⟨e,f,g,h⟩:Int×(List af)×Int×Int)=>bif (decide (h<g))then (idx f h).bind fun c=>(riNodeCount (aj c)).bind fun d=>some (.inl (w64 (e+d),f,g,w64 (h+1)))else some (.inr (e))) (1,a.args,(a.args.length:Int),0)
def ou:Nat->(af->Option (Int))
 | 0=>fun _=>none
 | n+1=>CV (ou n)
def GL(a:af):Option (Int):=(ou (siz a+1)) a
def YF:Fsp:=⟨230,[shT .expr],[shF .int],true,false,fun x=>GL x⟩
def Fq(n:Nat):Fsp:=⟨230,[shT .expr],[shF .int],true,false,fun x=>(ou n) x⟩
def CY(riNestingOf:af->Option (Int))(a:af):Option (Int):=au (fun(⟨e,f,g,h⟩:Int×(List af)×Int×Int)=>bif (decide (h<g))then (idx f h).bind fun d=>(riNestingOf (aj d)).bind fun c=>some (.inl ((if c>e then c else e),f,g,w64 (h+1)))else some (.inr (w64 (e+1)))) (0,a.args,(a.args.length:Int),0)
def qQ:Nat->(af->Option (Int))
 | 0=>fun _=>none
 | n+1=>CY (qQ n)
def GN(a:af):Option (Int):=(qQ (siz a+1)) a
def YG:Fsp:=⟨231,[shT .expr],[shF .int],true,false,fun x=>GN x⟩
def Fv(n:Nat):Fsp:=⟨231,[shT .expr],[shF .int],true,false,fun x=>(qQ n) x⟩
def Es(a:af):Option (Bool):=bif (a.kind==1)then (jr a.n 0 1000000000).bind fun b=>bif b then bif (a.text==[])then some (((a.args.length:Int)==0))else some (false)else some (false)else bif (a.kind==2)then bif (a.n==0)then (gY a.text).bind fun c=>bif c then some (((a.args.length:Int)==0))else some (false)else some (false)else bif (a.kind==3)then bif (a.n==0)then (bH a.text).bind fun d=>bif d then some (((a.args.length:Int)==0))else some (false)else some (false)else bif (a.kind==4)then bif (a.n==0)then bif (a.text==[])then some ((decide ((a.args.length:Int)<=8)))else some (false)else some (false)else bif (a.kind==5)then bif (a.n==0)then (fG a.text).bind fun e=>some (((a.args.length:Int)==e))else some (false)else bif (a.kind==6)then (jr a.n 1 5).bind fun f=>bif f then bif (a.text==[])then some (((a.args.length:Int)==2))else some (false)else some (false)else bif (a.kind==7)then bif (a.n==0)then (bH a.text).bind fun g=>bif g then some (((a.args.length:Int)==2))else some (false)else some (false)else bif (a.kind==9)then bif (a.n==0)then (bH a.text).bind fun h=>bif h then some (((a.args.length:Int)==2))else some (false)else some (false)else bif (a.kind==8)then bif (a.n==0)then bif (a.text==[])then some (((a.args.length:Int)==3))else some (false)else some (false)else some (false)
def agZ:Fsp:=⟨271,[shT .expr],[shF .bool],true,false,fun x=>Es x⟩
def GY(riAreNodes:af->Option (Bool))(a:af):Option (Bool):=au (fun(⟨f,g,h,i,j,k,l⟩:Int×Int×Str×(List af)×(List af)×Int×Int)=>bif (decide (l<k))then (idx j l).bind fun c=>(riAreNodes (aj c)).bind fun d=>bif (!d)then some (.inr (false))else some (.inl (f,g,h,i,j,k,w64 (l+1)))else ((Es (af.mk f g h i)).bind fun e=>some (e)).bind fun r=>some (.inr r)) (a.kind,a.n,a.text,a.args,a.args,(a.args.length:Int),0)
def uK:Nat->(af->Option (Bool))
 | 0=>fun _=>none
 | n+1=>GY (uK n)
def Ez(a:af):Option (Bool):=(uK (siz a+1)) a
def abp:Fsp:=⟨232,[shT .expr],[shF .bool],true,false,fun x=>Ez x⟩
def Jb(n:Nat):Fsp:=⟨232,[shT .expr],[shF .bool],true,false,fun x=>(uK n) x⟩
def gZ(a:af):Option (Bool):=(GL (aj a)).bind fun b=>bif (decide (b<=40))then (GN (aj a)).bind fun c=>bif (decide (c<=8))then (Ez (aj a)).bind fun d=>some (d)else some (false)else some (false)
def RD:Fsp:=⟨181,[shT .expr],[shF .bool],true,false,fun x=>gZ x⟩
def qc(a:Str):Option (af×Int):=(xW a).bind fun c=>bif (decide (c.2>=0))then some (af.mk 0 0 [] [],c.2)else (CS (aW.mk c.1 0 (-1))).bind fun b=>bif (decide (b.1.bad<0))then bif (decide (b.1.i<(c.1.length:Int)))then bif (decide (b.1.i>=(c.1.length:Int)))then some (af.mk 0 0 [] [],(a.length:Int))else bif (decide (b.1.i>=0))then (idx c.1 b.1.i).bind fun _=>(c.1[b.1.i.toNat]?).bind fun f=>some (af.mk 0 0 [] [],f.pos)else (gZ (aj b.2)).bind fun g=>bif (!g)then some (af.mk 0 0 [] [],0)else some (aj b.2,(-1))else bif (decide (b.1.bad>=(c.1.length:Int)))then some (af.mk 0 0 [] [],(a.length:Int))else bif (decide (b.1.bad>=0))then (idx c.1 b.1.bad).bind fun _=>(c.1[b.1.bad.toNat]?).bind fun h=>some (af.mk 0 0 [] [],h.pos)else (gZ (aj b.2)).bind fun j=>bif (!j)then some (af.mk 0 0 [] [],0)else some (aj b.2,(-1))else bif (decide (b.1.bad>=(c.1.length:Int)))then some (af.mk 0 0 [] [],(a.length:Int))else bif (decide (b.1.bad>=0))then (idx c.1 b.1.bad).bind fun _=>(c.1[b.1.bad.toNat]?).bind fun d=>some (af.mk 0 0 [] [],d.pos)else (gZ (aj b.2)).bind fun e=>bif (!e)then some (af.mk 0 0 [] [],0)else some (aj b.2,(-1))
def YD:Fsp:=⟨138,[shF .str],[shT .expr,shF .int],false,false,fun x=>qc x⟩
def jy(a:List Str)(b:Str):Option (Int):=au (fun(⟨e,f,g,h⟩:Str×(List Str)×Int×Int)=>bif (decide (h<g))then (idx f h).bind fun d=>bif (d==e)then some (.inr (h))else some (.inl (e,f,g,w64 (h+1)))else some (.inr ((-1)))) (b,a,(a.length:Int),0)
def ad5:Fsp:=⟨139,[slF .str,shF .str],[shF .int],true,false,fun x=>jy x.1 x.2⟩
def pW(a:List Str):Option ((List Str)):=au (fun(⟨f,g,h,i,j⟩:(List Str)×(List Str)×(List Str)×Int×Int)=>bif (decide (j<i))then (idx h j).bind fun c=>(jy f c).bind fun d=>bif (d==j)then (gd (g.length+([c]:List Str).length)).bind fun _=>some (.inl (f,g++([c]:List Str),h,i,w64 (j+1)))else some (.inl (f,g,h,i,w64 (j+1)))else ((iZ g).bind fun e=>some (e)).bind fun r=>some (.inr r)) (a,[],a,(a.length:Int),0)
def Yt:Fsp:=⟨184,[slF .str],[slF .str],true,false,fun x=>pW x⟩
def nR(a:af):Option (List Str):=(jG (siz a+1) a []).bind fun es=>(gd es.length).bind fun _=>pW (es.map (·.1))
def YI:Fsp:=⟨140,[shT .expr],[slF .str],true,false,fun x=>nR x⟩
def iy(a:af)(b c:Str):Option Bool:=(jG (siz a+1) a []).bind fun es=>(gd es.length).bind fun _=>some (es.any fun p=>p.1==b&&p.2.contains c)
def UN:Fsp:=⟨148,[shT .expr,shF .str,shF .str],[shF .bool],true,false,fun x=>iy x.1 x.2.1 x.2.2⟩
def GX(riCopyExpr:af->Option (af))(a:af):Option (af):=au (fun(⟨e,f,g,h,i,j,k,l,m,o,p⟩:Int×Int×Str×(List af)×Int×Int×Str×(List af)×(List af)×Int×Int)=>bif (decide (p<o))then (idx m p).bind fun d=>(riCopyExpr (aj d)).bind fun c=>(gd (l.length+[aj c].length)).bind fun _=>some (.inl (e,f,g,h,i,j,k,l++[aj c],m,o,w64 (p+1)))else some (.inr (af.mk i j k l))) (0,0,[],[],a.kind,a.n,a.text,[],a.args,(a.args.length:Int),0)
def uJ:Nat->(af->Option (af))
 | 0=>fun _=>none
 | n+1=>GX (uJ n)
def Ey(a:af):Option (af):=(uJ (siz a+1)) a
def abm:Fsp:=⟨234,[shT .expr],[shT .expr],true,false,fun x=>Ey x⟩
def Ja(n:Nat):Fsp:=⟨234,[shT .expr],[shT .expr],true,false,fun x=>(uJ n) x⟩
def jw(riRenamed:af->Str->Str->Option (af)):(Str×Str×Int×Int×Str×(List af)×Int×Int×Str×(List af)×Bool×(List af)×Int×Int)->Option ((Str×Str×Int×Int×Str×(List af)×Int×Int×Str×(List af)×Bool×(List af)×Int×Int)⊕(af)):=
(fun (x1:Str×Str×Int×Int×Str×(List af)×Int×Int×Str×(List af)×Bool×(List af)×Int×Int)=>
     bif (decide (x1.2.2.2.2.2.2.2.2.2.2.2.2.2<x1.2.2.2.2.2.2.2.2.2.2.2.2.1))then
      (idx x1.2.2.2.2.2.2.2.2.2.2.2.1 x1.2.2.2.2.2.2.2.2.2.2.2.2.2).bind fun e2=>
      bif x1.2.2.2.2.2.2.2.2.2.2.1 then
       bif (decide (x1.2.2.2.2.2.2.2.2.2.2.2.2.2>0))then
        (Ey (aj e2)).bind fun r3=>
        (gd (x1.2.2.2.2.2.2.2.2.2.1.length+[aj r3].length)).bind fun _=>
        some (.inl (x1.1,x1.2.1,x1.2.2.1,x1.2.2.2.1,x1.2.2.2.2.1,x1.2.2.2.2.2.1,x1.2.2.2.2.2.2.1,x1.2.2.2.2.2.2.2.1,x1.2.2.2.2.2.2.2.2.1,x1.2.2.2.2.2.2.2.2.2.1++[aj r3],x1.2.2.2.2.2.2.2.2.2.2.1,x1.2.2.2.2.2.2.2.2.2.2.2.1,x1.2.2.2.2.2.2.2.2.2.2.2.2.1,w64 (x1.2.2.2.2.2.2.2.2.2.2.2.2.2+1)))
       else
        (riRenamed (aj e2) x1.1 x1.2.1).bind fun r4=>
        (gd (x1.2.2.2.2.2.2.2.2.2.1.length+[aj r4].length)).bind fun _=>
        some (.inl (x1.1,x1.2.1,x1.2.2.1,x1.2.2.2.1,x1.2.2.2.2.1,x1.2.2.2.2.2.1,x1.2.2.2.2.2.2.1,x1.2.2.2.2.2.2.2.1,x1.2.2.2.2.2.2.2.2.1,x1.2.2.2.2.2.2.2.2.2.1++[aj r4],x1.2.2.2.2.2.2.2.2.2.2.1,x1.2.2.2.2.2.2.2.2.2.2.2.1,x1.2.2.2.2.2.2.2.2.2.2.2.2.1,w64 (x1.2.2.2.2.2.2.2.2.2.2.2.2.2+1)))
      else
       (riRenamed (aj e2) x1.1 x1.2.1).bind fun r5=>
       (gd (x1.2.2.2.2.2.2.2.2.2.1.length+[aj r5].length)).bind fun _=>
       some (.inl (x1.1,x1.2.1,x1.2.2.1,x1.2.2.2.1,x1.2.2.2.2.1,x1.2.2.2.2.2.1,x1.2.2.2.2.2.2.1,x1.2.2.2.2.2.2.2.1,x1.2.2.2.2.2.2.2.2.1,x1.2.2.2.2.2.2.2.2.2.1++[aj r5],x1.2.2.2.2.2.2.2.2.2.2.1,x1.2.2.2.2.2.2.2.2.2.2.2.1,x1.2.2.2.2.2.2.2.2.2.2.2.2.1,w64 (x1.2.2.2.2.2.2.2.2.2.2.2.2.2+1)))
     else
      some (.inr (af.mk x1.2.2.2.2.2.2.1 x1.2.2.2.2.2.2.2.1 x1.2.2.2.2.2.2.2.2.1 x1.2.2.2.2.2.2.2.2.2.1))
  )
def Eo(riRenamed:af->Str->Str->Option (af))(a:af)(b:Str)(c:Str):Option (af):=bif (a.kind==3)then bif (a.text==b)then bif (a.kind==7)then au (jw riRenamed) (b,c,0,0,[],[],a.kind,a.n,c,[],(a.text==b),a.args,(a.args.length:Int),0)else bif (a.kind==9)then au (jw riRenamed) (b,c,0,0,[],[],a.kind,a.n,c,[],(a.text==b),a.args,(a.args.length:Int),0)else au (jw riRenamed) (b,c,0,0,[],[],a.kind,a.n,c,[],false,a.args,(a.args.length:Int),0)else bif (a.kind==7)then au (jw riRenamed) (b,c,0,0,[],[],a.kind,a.n,a.text,[],(a.text==b),a.args,(a.args.length:Int),0)else bif (a.kind==9)then au (jw riRenamed) (b,c,0,0,[],[],a.kind,a.n,a.text,[],(a.text==b),a.args,(a.args.length:Int),0)else au (jw riRenamed) (b,c,0,0,[],[],a.kind,a.n,a.text,[],false,a.args,(a.args.length:Int),0)else bif (a.kind==7)then au (jw riRenamed) (b,c,0,0,[],[],a.kind,a.n,a.text,[],(a.text==b),a.args,(a.args.length:Int),0)else bif (a.kind==9)then au (jw riRenamed) (b,c,0,0,[],[],a.kind,a.n,a.text,[],(a.text==b),a.args,(a.args.length:Int),0)else au (jw riRenamed) (b,c,0,0,[],[],a.kind,a.n,a.text,[],false,a.args,(a.args.length:Int),0)
def xZ:Nat->(af->Str->Str->Option (af))
 | 0=>fun _ _ _=>none
 | n+1=>Eo (xZ n)
def Ro(a:af)(b:Str)(c:Str):Option (af):=(xZ (siz a+1)) a b c
def adW:Fsp:=⟨185,[shT .expr,shF .str,shF .str],[shT .expr],true,false,fun x=>Ro x.1 x.2.1 x.2.2⟩
def Nc(n:Nat):Fsp:=⟨185,[shT .expr,shF .str,shF .str],[shT .expr],true,false,fun x=>(xZ n) x.1 x.2.1 x.2.2⟩
def kE(a:af)(b:Str)(c:Str):Option (af×Bool):=(gZ (aj a)).bind fun d=>bif (!d)then some (af.mk 0 0 [] [],false)else (bH b).bind fun e=>bif (!e)then some (af.mk 0 0 [] [],false)else (bH c).bind fun f=>bif (!f)then some (af.mk 0 0 [] [],false)else (iy (aj a) b c).bind fun g=>bif g then some (af.mk 0 0 [] [],false)else (Ro (aj a) b c).bind fun h=>some (aj h,true)
def UE:Fsp:=⟨141,[shT .expr,shF .str,shF .str],[shT .expr,shF .bool],true,false,fun x=>kE x.1 x.2.1 x.2.2⟩
def agL:Fsp:=⟨273,[shF .int],[shF .str],true,false,fun x=>Ej x⟩
def zT(a:Int):Option (Str):=(Ej a).bind fun b=>some (b)
def YJ:Fsp:=⟨235,[shF .int],[shF .str],true,false,fun x=>zT x⟩
def agK:Fsp:=⟨296,[slF .str,shF .str],[shF .str],true,false,fun x=>Ei x.1 x.2⟩
def aa9(a:List Str)(b:Str):Option (Str):=(Ei a b).bind fun c=>some (c)
def alo:Fsp:=⟨274,[slF .str,shF .str],[shF .str],true,false,fun x=>aa9 x.1 x.2⟩
def IY(a:af):Option (Int):=bif (a.kind==7)then some (0)else bif (a.kind==8)then some (0)else bif (a.kind==9)then some (0)else bif (a.kind==6)then bif (a.n==4)then some (1)else bif (a.n==5)then some (1)else bif (a.n==1)then some (2)else bif (a.n==2)then some (2)else bif (a.n==3)then some (3)else some (4)else some (4)
def ad2:Fsp:=⟨237,[shT .expr],[shF .int],true,false,fun x=>IY x⟩
def Rl(riSource:af->Option (Str))(riSources:(List af)->Option (Str))(riEnclosed:af->Int->Option (Str))(a:af):Option (Str):=bif (a.kind==1)then (zT a.n).bind fun A=>some (A)else bif (a.kind==2)then (gd ([34].length+a.text.length)).bind fun _=>(gd (([34]++a.text).length+[34].length)).bind fun _=>some (([34]++a.text)++[34])else bif (a.kind==3)then some (a.text)else bif (a.kind==4)then (riSources a.args).bind fun p=>(gd ([91].length+p.length)).bind fun _=>(gd (([91]++p).length+[93].length)).bind fun _=>some (([91]++p)++[93])else bif (a.kind==5)then (gd (a.text.length+[40].length)).bind fun _=>(riSources a.args).bind fun q=>(gd ((a.text++[40]).length+q.length)).bind fun _=>(gd (((a.text++[40])++q).length+[41].length)).bind fun _=>some (((a.text++[40])++q)++[41])else bif (a.kind==7)then (gd ([108,101,116,32].length+a.text.length)).bind fun _=>(gd (([108,101,116,32]++a.text).length+[32,61,32].length)).bind fun _=>(idx a.args 0).bind fun B=>(riSource (aj B)).bind fun o=>(gd ((([108,101,116,32]++a.text)++[32,61,32]).length+o.length)).bind fun _=>(gd (((([108,101,116,32]++a.text)++[32,61,32])++o).length+[32,105,110,32].length)).bind fun _=>(idx a.args 1).bind fun C=>(riSource (aj C)).bind fun z=>(gd ((((([108,101,116,32]++a.text)++[32,61,32])++o)++[32,105,110,32]).length+z.length)).bind fun _=>some ((((([108,101,116,32]++a.text)++[32,61,32])++o)++[32,105,110,32])++z)else bif (a.kind==8)then (idx a.args 0).bind fun D=>(riSource (aj D)).bind fun i=>(gd ([105,102,32].length+i.length)).bind fun _=>(gd (([105,102,32]++i).length+[32,116,104,101,110,32].length)).bind fun _=>(idx a.args 1).bind fun r=>(riSource (aj r)).bind fun d=>(gd ((([105,102,32]++i)++[32,116,104,101,110,32]).length+d.length)).bind fun _=>(gd (((([105,102,32]++i)++[32,116,104,101,110,32])++d).length+[32,101,108,115,101,32].length)).bind fun _=>(idx a.args 2).bind fun s=>(riSource (aj s)).bind fun j=>(gd ((((([105,102,32]++i)++[32,116,104,101,110,32])++d)++[32,101,108,115,101,32]).length+j.length)).bind fun _=>some ((((([105,102,32]++i)++[32,116,104,101,110,32])++d)++[32,101,108,115,101,32])++j)else bif (a.kind==9)then (gd ([102,111,114,32].length+a.text.length)).bind fun _=>(gd (([102,111,114,32]++a.text).length+[32,105,110,32].length)).bind fun _=>(idx a.args 0).bind fun t=>(riSource (aj t)).bind fun e=>(gd ((([102,111,114,32]++a.text)++[32,105,110,32]).length+e.length)).bind fun _=>(gd (((([102,111,114,32]++a.text)++[32,105,110,32])++e).length+[32,100,111,32].length)).bind fun _=>(idx a.args 1).bind fun u=>(riSource (aj u)).bind fun k=>(gd ((((([102,111,114,32]++a.text)++[32,105,110,32])++e)++[32,100,111,32]).length+k.length)).bind fun _=>some ((((([102,111,114,32]++a.text)++[32,105,110,32])++e)++[32,100,111,32])++k)else (IY (aj a)).bind fun f=>bif (f==1)then (idx a.args 0).bind fun v=>(riEnclosed (aj v) 2).bind fun b=>(gd (b.length+[32].length)).bind fun _=>(tC a.n).bind fun g=>(gd ((b++[32]).length+g.length)).bind fun _=>(gd (((b++[32])++g).length+[32].length)).bind fun _=>(idx a.args 1).bind fun w=>(riEnclosed (aj w) (w64 (f+1))).bind fun l=>(gd ((((b++[32])++g)++[32]).length+l.length)).bind fun _=>some ((((b++[32])++g)++[32])++l)else (idx a.args 0).bind fun x=>(riEnclosed (aj x) f).bind fun c=>(gd (c.length+[32].length)).bind fun _=>(tC a.n).bind fun h=>(gd ((c++[32]).length+h.length)).bind fun _=>(gd (((c++[32])++h).length+[32].length)).bind fun _=>(idx a.args 1).bind fun y=>(riEnclosed (aj y) (w64 (f+1))).bind fun m=>(gd ((((c++[32])++h)++[32]).length+m.length)).bind fun _=>
 some ((((c++[32])++h)++[32])++m)
def KF(riSource:af->Option (Str))(riSources:(List af)->Option (Str))(riEnclosed:af->Int->Option (Str))(a:List af):Option (Str):=au (fun(⟨f,g,h,i⟩:(List Str)×(List af)×Int×Int)=>bif (decide (i<h))then (idx g i).bind fun d=>(riSource (aj d)).bind fun c=>(gd (f.length+([c]:List Str).length)).bind fun _=>some (.inl (f++([c]:List Str),g,h,w64 (i+1)))else ((aa9 f [44,32]).bind fun e=>some (e)).bind fun r=>some (.inr r)) ([],a,(a.length:Int),0)
def GV(riSource:af->Option (Str))(riSources:(List af)->Option (Str))(riEnclosed:af->Int->Option (Str))(a:af)(b:Int):Option (Str):=(riSource (aj a)).bind fun c=>(IY (aj a)).bind fun d=>bif (decide (d<b))then (gd ([40].length+c.length)).bind fun _=>(gd (([40]++c).length+[41].length)).bind fun _=>some (([40]++c)++[41])else some (c)
def dw:Nat->(af->Option (Str))×((List af)->Option (Str))×(af->Int->Option (Str))
 | 0=>(fun _=>none,fun _=>none,fun _ _=>none)
 | n+1=>(Rl (dw n).1 (dw n).2.1 (dw n).2.2,KF (dw n).1 (dw n).2.1 (dw n).2.2,GV (dw n).1 (dw n).2.1 (dw n).2.2)
def Yr(a:af):Option (Str):=(dw (siz a+1)).1 a
def agX:Fsp:=⟨186,[shT .expr],[shF .str],true,false,fun x=>Yr x⟩
def Rk(n:Nat):Fsp:=⟨186,[shT .expr],[shF .str],true,false,fun x=>(dw n).1 x⟩
def ajw(a:List af):Option (Str):=(dw (siz a+1)).2.1 a
def adT:Fsp:=⟨236,[slF .expr],[shF .str],true,false,fun x=>ajw x⟩
def Nb(n:Nat):Fsp:=⟨236,[slF .expr],[shF .str],true,false,fun x=>(dw n).2.1 x⟩
def ag0(a:af)(b:Int):Option (Str):=(dw (siz a+1)).2.2 a b
def abg:Fsp:=⟨238,[shT .expr,shF .int],[shF .str],true,false,fun x=>ag0 x.1 x.2⟩
def I7(n:Nat):Fsp:=⟨238,[shT .expr,shF .int],[shF .str],true,false,fun x=>(dw n).2.2 x.1 x.2⟩
def kF(a:af):Option (Str):=(gZ (aj a)).bind fun b=>bif (!b)then some ([])else (Yr (aj a)).bind fun c=>some (c)
def UQ:Fsp:=⟨142,[shT .expr],[shF .str],true,false,fun x=>kF x⟩
def gu(a:Str)(b:Str)(c:Str):Option (Str):=(qc a).bind fun d=>bif (decide (d.2>=0))then some (a)else (nR (aj d.1)).bind fun g=>(jy g b).bind fun h=>bif (decide (h<0))then some (a)else (kE (aj d.1) b c).bind fun e=>(kF (aj e.1)).bind fun f=>bif e.2 then bif (decide ((f.length:Int)<=120))then some (f)else some (a)else some (a)
def RV:Fsp:=⟨95,[shF .str,shF .str,shF .str],[shF .str],true,false,fun x=>gu x.1 x.2.1 x.2.2⟩
def zW(a:dZ)(b:List GOp):Option (dZ):=au (fun(⟨i,j,k,l,m,o,p,q,r,s,t,u,v,w,x,y,z,A,B⟩:Int×Int×Int×Int×Int×Str×Str×Int×Int×Int×Int×Int×Int×Str×Str×Int×(List GOp)×Int×Int)=>bif (decide (B<A))then (idx z B).bind fun d=>bif (o==d.src)then bif (i==4)then (gu p d.src d.dst).bind fun e=>some (.inl (i,j,k,l,m,d.dst,e,q,r,s,t,u,v,w,x,y,z,A,w64 (B+1)))else bif (i==1)then bif (m==2)then (gu p d.src d.dst).bind fun f=>some (.inl (i,j,k,l,m,d.dst,f,q,r,s,t,u,v,w,x,y,z,A,w64 (B+1)))else some (.inl (i,j,k,l,m,d.dst,p,q,r,s,t,u,v,w,x,y,z,A,w64 (B+1)))else some (.inl (i,j,k,l,m,d.dst,p,q,r,s,t,u,v,w,x,y,z,A,w64 (B+1)))else bif (i==4)then (gu p d.src d.dst).bind fun g=>some (.inl (i,j,k,l,m,o,g,q,r,s,t,u,v,w,x,y,z,A,w64 (B+1)))else bif (i==1)then bif (m==2)then (gu p d.src d.dst).bind fun h=>some (.inl (i,j,k,l,m,o,h,q,r,s,t,u,v,w,x,y,z,A,w64 (B+1)))else some (.inl (i,j,k,l,m,o,p,q,r,s,t,u,v,w,x,y,z,A,w64 (B+1)))else some (.inl (i,j,k,l,m,o,p,q,r,s,t,u,v,w,x,y,z,A,w64 (B+1)))
  else
   some (.inr (dZ.mk i j (ah.mk k l m o p q)))
 ) (a.kind,a.pos,a.cell.id,a.cell.version,a.cell.kind,a.cell.name,a.cell.code,a.cell.n,0,0,0,0,0,[],[],0,b,(b.length:Int),0)
def YU:Fsp:=⟨42,[shT .edit,slF .op],[shT .edit],true,false,fun x=>zW x.1 x.2⟩
def iQ(a:GOp):Option (Int):=some (w64 ((w64 (a.time*3))+a.by_))
def NP:Fsp:=⟨43,[shT .op],[shF .int],true,false,fun x=>iQ x⟩
def zS(a:Int):Option (aC):=some (aC.mk 1 a 0 [] [] [] [])
def Rx:Fsp:=⟨239,[shF .int],[shT .val],true,false,fun x=>zS x⟩
def lG(a:Int):Option (aC):=some (aC.mk 6 a 0 [] [] [] [])
def UR:Fsp:=⟨240,[shF .int],[shT .val],true,false,fun x=>lG x⟩
def adH:Fsp:=⟨275,[shF .str,shF .str],[slF .str],true,false,fun x=>kN x.1 x.2⟩
def lD(a:Str)(b:Int):Option ((List Str)):=(kN a (bytesOf [b])).bind fun c=>some (c)
def Yq:Fsp:=⟨276,[shF .str,shF .u8],[slF .str],true,false,fun x=>lD x.1 x.2⟩
def yu(a:Str)(b:Int):Option ((List Int)×Bool):=(lD a 32).bind fun e=>au (fun(⟨g,h,i,j,k⟩:Int×(List Int)×(List Str)×Int×Int)=>bif (decide (k<j))then (idx i k).bind fun _=>(i[k.toNat]?).bind fun f=>(mF f (-1000000000) 1000000000).bind fun d=>bif (!d.2)then some (.inr ([],false))else (gd (h.length+[d.1].length)).bind fun _=>some (.inl (g,h++[d.1],i,j,w64 (k+1)))else some (.inr (h,((h.length:Int)==g)))) (b,[],e,(e.length:Int),0)
def ad6:Fsp:=⟨277,[shF .str,shF .int],[slF .int,shF .bool],true,false,fun x=>yu x.1 x.2⟩
def sG(a:List Str):Option (Bool):=au (fun(⟨e,f,g,h⟩:(List Str)×(List Str)×Int×Int)=>bif (decide (h<g))then (idx f h).bind fun c=>(jy e c).bind fun d=>bif (d != h)then some (.inr (false))else some (.inl (e,f,g,w64 (h+1)))else some (.inr (true))) (a,a,(a.length:Int),0)
def RU:Fsp:=⟨301,[slF .str],[shF .bool],true,false,fun x=>sG x⟩
def qW(a:List Str):Option (Bool):=au (fun(⟨g,h,i,j⟩:(List Str)×(List Str)×Int×Int)=>bif (decide (j<i))then (idx h j).bind fun c=>(bH c).bind fun d=>bif (!d)then some (.inr (false))else some (.inl (g,h,i,w64 (j+1)))else ((jr (g.length:Int) 1 4).bind fun e=>bif e then (sG g).bind fun f=>some (f)else some (false)).bind fun r=>some (.inr r)) (a,a,(a.length:Int),0)
def UX:Fsp:=⟨279,[slF .str],[shF .bool],true,false,fun x=>qW x⟩
def Ep(a:Int):Option (Bool):=(jr a (-1000000000) 1000000000).bind fun b=>some (b)
def abd:Fsp:=⟨298,[shF .int],[shF .bool],true,false,fun x=>Ep x⟩
def Fp(a:bQ)(b:bQ):Option (Bool):=bif (decide (a.cell<b.cell))then some (true)else bif (a.cell==b.cell)then some ((decide (a.row<b.row)))else some (false)
def NT:Fsp:=⟨329,[shT .origin,shT .origin],[shF .bool],true,false,fun x=>Fp x.1 x.2⟩
def C9(a:aC):Option (Bool):=(qW a.columns).bind fun h=>bif (!h)then some (false)else bif (decide ((a.rows.length:Int)>12))then some (false)else au (fun(⟨l,m,o,p,q,s,t,u,v,w⟩:Int×Int×Int×Str×(List aC)×(List Str)×(List bD)×(List bD)×Int×Int)=>bif (decide (w<v))then (idx u w).bind fun e=>bif ((e.cells.length:Int) != (s.length:Int))then some (.inr (false))else au (fun(⟨d,x,y,z,A,B,C,D,E,F,G,H,I,J,K⟩:Int×Int×Int×Str×(List aC)×(List Str)×(List bD)×(List Int)×(List bQ)×(List bD)×Int×Int×(List Int)×Int×Int)=>bif (decide (K<J))then (idx I K).bind fun i=>(Ep i).bind fun j=>bif (!j)then (some (.inr (false))).bind fun r=>some (.inr r)else some (.inl (d,x,y,z,A,B,C,D,E,F,G,H,I,J,w64 (K+1)))else (au (fun(⟨c,L,M,N,O,P,Q,R,S,T,U,V,W,X,Y⟩:Int×Int×Int×Str×(List aC)×(List Str)×(List bD)×(List Int)×(List bQ)×(List bD)×Int×Int×(List bQ)×Int×Int)=>bif (decide (Y<X))then (idx W Y).bind fun f=>bif (decide (f.cell<0))then (some (.inr (false))).bind fun r=>some (.inr r)else bif (decide (f.row<0))then (some (.inr (false))).bind fun r=>some (.inr r)else bif (decide (Y>0))then (idx S (w64 (Y-1))).bind fun k=>(Fp k f).bind fun g=>bif (!g)then (some (.inr (false))).bind fun r=>some (.inr r)else some (.inl (c,L,M,N,O,P,Q,R,S,T,U,V,W,X,w64 (Y+1)))else some (.inl (c,L,M,N,O,P,Q,R,S,T,U,V,W,X,w64 (Y+1)))else some (.inr (.inl (c,L,M,N,O,P,Q,T,U,w64 (V+1))))) (d,x,y,z,A,B,C,D,E,F,G,H,E,(E.length:Int),0)).bind fun r=>some (.inr r)) (l,m,o,p,q,s,t,e.cells,e.orig,u,v,w,e.cells,(e.cells.length:Int),0)else some (.inr (true))) (a.kind,a.n,a.step,a.text,a.list,a.columns,a.rows,a.rows,(a.rows.length:Int),0)
def ad4:Fsp:=⟨299,[shT .val],[shF .bool],true,false,fun x=>C9 x⟩
def jR(a:aC):Option (Bool):=bif ((a.columns.length:Int)==0)then bif (a.n==0)then bif (a.step==0)then bif (a.text==[])then (C9 (aC.mk 5 a.n a.step a.text [] a.columns a.rows)).bind fun b=>some (b)else some (false)else some (false)else some (false)else bif (a.n==0)then bif (a.step==0)then bif (a.text==[])then (C9 (aC.mk 5 a.n a.step a.text [] a.columns a.rows)).bind fun c=>some (c)else some (false)else some (false)else some (false)
def qo(a:aC):Option (Bool):=bif (a.kind==5)&&a.list.isEmpty then jR a else none
def iH:Fsp:=⟨278,[shT .val],[shF .bool],true,false,fun x=>qo x⟩
def nP(a:Str):Option (aC×Bool):=(kN a [59,32]).bind fun c=>(idx c 0).bind fun _=>(c[0]?).bind fun f=>(lD f 32).bind fun g=>(eff.cutL c (some 1) none).bind fun e=>au (fun(⟨j,k,l,m,n,o,p,q,s,t,u,v,w,x,y,z,A⟩:Int×Int×Int×Str×(List aC)×(List Str)×(List bD)×Int×Int×Int×Str×(List aC)×(List Str)×(List bD)×(List Str)×Int×Int)=>bif (decide (A<z))then (idx y A).bind fun h=>(yu h (w.length:Int)).bind fun d=>bif (!d.2)then some (.inr (aC.mk 0 0 0 [] [] [] [],false))else (gd (x.length+([bD.mk d.1 []]).length)).bind fun _=>some (.inl (j,k,l,m,n,o,p,q,s,t,u,v,w,x++([bD.mk d.1 []]),y,z,w64 (A+1)))else ((qo (aC.mk q s t u v w x)).bind fun i=>bif (!i)then some (aC.mk 0 0 0 [] [] [] [],false)else some (aC.mk q s t u v w x,true)).bind fun r=>some (.inr r)) (0,0,0,[],[],[],[],5,0,0,[],[],g,[],e,(e.length:Int),0)
def YE:Fsp:=⟨241,[shF .str],[shT .val,shF .bool],true,false,fun x=>nP x⟩
def zU(a:Str):Option (Int):=(nP a).bind fun g=>bif g.2 then some ((-1))else (kN a [59,32]).bind fun c=>(idx c 0).bind fun _=>(c[0]?).bind fun h=>(lD h 32).bind fun e=>(qW e).bind fun i=>bif (!i)then some (0)else (eff.cutL c (some 1) none).bind fun f=>au (fun(⟨k,l,m,n⟩:(List Str)×(List Str)×Int×Int)=>bif (decide (n<m))then (idx l n).bind fun j=>(yu j (k.length:Int)).bind fun d=>bif (!d.2)then some (.inr (w64 (n+1)))else bif (decide (n>=12))then some (.inr (w64 (n+1)))else some (.inl (k,l,m,w64 (n+1)))else some (.inr ((-1)))) (e,f,(f.length:Int),0)
def YL:Fsp:=⟨242,[shF .str],[shF .int],true,false,fun x=>zU x⟩
def sD(a:Int)(b:aC):Option (aC):=bif (b.kind != 5)then (lG 4).bind fun e=>some (dB e)else (qo (dB b)).bind fun f=>bif (!f)then (lG 4).bind fun g=>some (dB g)else bif (decide (a<0))then (lG 4).bind fun h=>some (dB h)else (nS (dB b)).bind fun d=>au (fun(⟨j,k,l,m,o,p,q,r,s,t,u,v,w,x,y,z,A⟩:Int×Int×Int×Int×Str×(List aC)×(List Str)×(List bD)×Int×Int×Int×Str×(List aC)×(List Str)×(List bD)×Int×Int)=>bif (decide (A<z))then (idx y A).bind fun _=>(y[A.toNat]?).bind fun i=>some (.inl (j,k,l,m,o,p,q,r,s,t,u,v,w,x,y.set A.toNat (bD.mk i.cells [bQ.mk j A]),z,w64 (A+1)))else some (.inr (aC.mk s t u v w x y))) (a,0,0,0,[],[],[],[],d.kind,d.n,d.step,d.text,d.list,d.columns,d.rows,(d.rows.length:Int),0)
def Rj:Fsp:=⟨243,[shF .int,shT .val],[shT .val],true,false,fun x=>sD x.1 x.2⟩
def lX(a:ah):Option (bG):=(cO a).bind fun d=>bif (!d)then some (bG.mk 0 [] (af.mk 0 0 [] []) (aC.mk 0 0 0 [] [] [] []) 0)else bif (a.kind==1)then some (bG.mk 1 [] (af.mk 0 0 [] []) (aC.mk 0 0 0 [] [] [] []) 0)else bif (a.kind==3)then (zS a.n).bind fun e=>some (bG.mk 3 a.name (af.mk 0 0 [] []) (dB e) 0)else bif (a.kind==2)then (qc a.code).bind fun b=>bif (decide (b.2>=0))then (lG 8).bind fun f=>some (bG.mk 4 a.name (af.mk 0 0 [] []) (dB f) b.2)else some (bG.mk 2 a.name (aj b.1) (aC.mk 0 0 0 [] [] [] []) 0)else (nP a.code).bind fun c=>bif (!c.2)then (lG 8).bind fun g=>(zU a.code).bind fun h=>some (bG.mk 4 a.name (af.mk 0 0 [] []) (dB g) h)else (sD a.id (dB c.1)).bind fun i=>some (bG.mk 3 a.name (af.mk 0 0 [] []) (dB i) 0)
def RQ:Fsp:=⟨187,[shT .cell],[shT .part],false,false,fun x=>lX x⟩
def oC(a:ak):Option ((List bG)):=(fK a).bind fun d=>bif (!d)then some ([])else au (fun(⟨f,g,h,i⟩:(List bG)×(List ah)×Int×Int)=>bif (decide (i<h))then (idx g i).bind fun e=>(lX e).bind fun c=>(gd (f.length+[jO c].length)).bind fun _=>some (.inl (f++[jO c],g,h,w64 (i+1)))else some (.inr (f))) ([],a.cells,(a.cells.length:Int),0)
def UW:Fsp:=⟨143,[shT .notebook],[slF .part],false,true,fun x=>oC x⟩
def tH(a:List bG)(b:Str):Option ((List Int)):=au (fun(⟨e,f,g,h,i⟩:Str×(List Int)×(List bG)×Int×Int)=>bif (decide (i<h))then (idx g i).bind fun d=>bif (d.kind != 1)then bif (d.name==e)then (gd (f.length+[i].length)).bind fun _=>some (.inl (e,f++[i],g,h,w64 (i+1)))else some (.inl (e,f,g,h,w64 (i+1)))else some (.inl (e,f,g,h,w64 (i+1)))else some (.inr (f))) (b,[],a,(a.length:Int),0)
def abh:Fsp:=⟨146,[slF .part,shF .str],[slF .int],true,false,fun x=>tH x.1 x.2⟩
def CG(a:List bG)(b:Str):Option (Int):=(tH a b).bind fun c=>bif ((c.length:Int)==0)then some ((-1))else bif ((c.length:Int)==1)then (idx c 0).bind fun _=>(c[0]?).bind fun d=>some (d)else some ((-2))
def adV:Fsp:=⟨145,[slF .part,shF .str],[shF .int],true,false,fun x=>CG x.1 x.2⟩
def su(a:bG):Option ((List Str)):=bif (a.kind != 2)then some ([])else (nR (aj a.expr)).bind fun b=>some (b)
def agS:Fsp:=⟨147,[shT .part],[slF .str],true,false,fun x=>su x⟩
def nO(a:ak)(b:Str)(c:Str)(d:Bool):Option (ak×Int):=(oC a).bind fun o=>(fK a).bind fun C=>bif (!C)then none else (bH b).bind fun D=>bif (!D)then none else (bH c).bind fun E=>bif (!E)then none else bif (b==c)then none else (CG o b).bind fun B=>bif (decide (B<0))then none else (tH o c).bind fun F=>au (fun(⟨H,I,J,K,L,M,N,O,P,Q,R,S⟩:Str×Str×Bool×(List ah)×(List ah)×(List bG)×Int×Bool×Bool×(List bG)×Int×Int)=>bif (decide (S<R))then (idx Q S).bind fun p=>bif O then bif P then some (.inl (H,I,J,K,L,M,N,true,true,Q,R,w64 (S+1)))else bif (p.kind==2)then (iy (aj p.expr) H I).bind fun G=>some (.inl (H,I,J,K,L,M,N,true,G,Q,R,w64 (S+1)))else some (.inl (H,I,J,K,L,M,N,true,false,Q,R,w64 (S+1)))else (su (jO p)).bind fun s=>(jy s I).bind fun l=>bif P then some (.inl (H,I,J,K,L,M,N,(decide (l>=0)),true,Q,R,w64 (S+1)))else bif (p.kind==2)then (iy (aj p.expr) H I).bind fun t=>some (.inl (H,I,J,K,L,M,N,(decide (l>=0)),t,Q,R,w64 (S+1)))else some (.inl (H,I,J,K,L,M,N,(decide (l>=0)),false,Q,R,w64 (S+1)))else (bif O then none else bif P then none else (bT (ak.mk K)).bind fun m=>(idx m.cells N).bind fun _=>(m.cells[N.toNat]?).bind fun i=>au (fun(⟨g,T,U,V,W,X,Y,Z,aa,ac⟩:Str×Str×Bool×(List ah)×(List ah)×(List ah)×Bool×(List bG)×Int×Int)=>bif (decide (ac<aa))then (idx Z ac).bind fun q=>(su (jO q)).bind fun u=>(jy u g).bind fun v=>bif (decide (v<0))then some (.inl (g,T,U,V,W,X,Y,Z,aa,w64 (ac+1)))else (kE (aj q.expr) g T).bind fun w=>(kF (aj w.1)).bind fun h=>(idx X ac).bind fun _=>(X[ac.toNat]?).bind fun f=>(idx (X.set ac.toNat (ah.mk f.id f.version f.kind f.name h f.n)) ac).bind fun _=>((X.set ac.toNat (ah.mk f.id f.version f.kind f.name h f.n))[ac.toNat]?).bind fun x=>bif (decide ((x.code.length:Int)>120))then none else bif U then bif Y then (idx (X.set ac.toNat (ah.mk f.id f.version f.kind f.name h f.n)) ac).bind fun _=>((X.set ac.toNat (ah.mk f.id f.version f.kind f.name h f.n))[ac.toNat]?).bind fun y=>(idx (X.set ac.toNat (ah.mk f.id f.version f.kind f.name h f.n)) ac).bind fun _=>((X.set ac.toNat (ah.mk f.id f.version f.kind f.name h f.n))[ac.toNat]?).bind fun j=>some (.inl (g,T,U,V,W,(X.set ac.toNat (ah.mk f.id f.version f.kind f.name h f.n)).set ac.toNat (ah.mk j.id (w64 (y.version+1)) j.kind j.name j.code j.n),true,Z,aa,w64 (ac+1)))
      else
       (idx (X.set ac.toNat (ah.mk f.id f.version f.kind f.name h f.n)) ac).bind fun _=>
       ((X.set ac.toNat (ah.mk f.id f.version f.kind f.name h f.n))[ac.toNat]?).bind fun z=>
       (idx (X.set ac.toNat (ah.mk f.id f.version f.kind f.name h f.n)) ac).bind fun _=>
       ((X.set ac.toNat (ah.mk f.id f.version f.kind f.name h f.n))[ac.toNat]?).bind fun A=>
       (idx (X.set ac.toNat (ah.mk f.id f.version f.kind f.name h f.n)) ac).bind fun _=>
       ((X.set ac.toNat (ah.mk f.id f.version f.kind f.name h f.n))[ac.toNat]?).bind fun k=>
       some (.inl (g,T,U,V,W,(X.set ac.toNat (ah.mk f.id f.version f.kind f.name h f.n)).set ac.toNat (ah.mk k.id (w64 (A.version+1)) k.kind k.name k.code k.n),(decide (z.version>=999)),Z,aa,w64 (ac+1)))
     else
      some (.inl (g,T,U,V,W,X.set ac.toNat (ah.mk f.id f.version f.kind f.name h f.n),Y,Z,aa,w64 (ac+1)))
    else
     (
      bif Y then
       none
      else
       some (ak.mk X,0)
     ).bind fun r=>some (.inr r)
   ) (H,I,J,K,L,m.cells.set N.toNat (ah.mk i.id i.version i.kind I i.code i.n),false,M,(M.length:Int),0)
  ).bind fun r=>some (.inr r)
 ) (b,c,d,a.cells,[],o,B,(decide ((F.length:Int)>0)),false,o,(o.length:Int),0)
def Yy:Fsp:=⟨96,[shT .notebook,shF .str,shF .str,shF .bool],[shT .notebook,shF .int],true,false,fun x=>nO x.1 x.2.1 x.2.2.1 x.2.2.2⟩
def pY(a:ak)(b:Str)(c:Str)(d:Bool):Option (ak×Int):=(oC a).bind fun o=>(fK a).bind fun C=>bif (!C)then some (a,1)else (bH b).bind fun D=>bif (!D)then some (a,1)else (bH c).bind fun E=>bif (!E)then some (a,1)else bif (b==c)then some (a,1)else (CG o b).bind fun B=>bif (decide (B<0))then some (a,2)else (tH o c).bind fun F=>au (fun(⟨H,I,J,K,L,M,N,O,P,Q,R,S⟩:Str×Str×Bool×(List ah)×(List ah)×(List bG)×Int×Bool×Bool×(List bG)×Int×Int)=>bif (decide (S<R))then (idx Q S).bind fun p=>bif O then bif P then some (.inl (H,I,J,K,L,M,N,true,true,Q,R,w64 (S+1)))else bif (p.kind==2)then (iy (aj p.expr) H I).bind fun G=>some (.inl (H,I,J,K,L,M,N,true,G,Q,R,w64 (S+1)))else some (.inl (H,I,J,K,L,M,N,true,false,Q,R,w64 (S+1)))else (su (jO p)).bind fun s=>(jy s I).bind fun l=>bif P then some (.inl (H,I,J,K,L,M,N,(decide (l>=0)),true,Q,R,w64 (S+1)))else bif (p.kind==2)then (iy (aj p.expr) H I).bind fun t=>some (.inl (H,I,J,K,L,M,N,(decide (l>=0)),t,Q,R,w64 (S+1)))else some (.inl (H,I,J,K,L,M,N,(decide (l>=0)),false,Q,R,w64 (S+1)))else (bif O then some (ak.mk K,3)else bif P then some (ak.mk K,4)else (bT (ak.mk K)).bind fun m=>(idx m.cells N).bind fun _=>(m.cells[N.toNat]?).bind fun i=>au (fun(⟨g,T,U,V,W,X,Y,Z,aa,ac⟩:Str×Str×Bool×(List ah)×(List ah)×(List ah)×Bool×(List bG)×Int×Int)=>bif (decide (ac<aa))then (idx Z ac).bind fun q=>(su (jO q)).bind fun u=>(jy u g).bind fun v=>bif (decide (v<0))then some (.inl (g,T,U,V,W,X,Y,Z,aa,w64 (ac+1)))else (kE (aj q.expr) g T).bind fun w=>(kF (aj w.1)).bind fun h=>(idx X ac).bind fun _=>(X[ac.toNat]?).bind fun f=>(idx (X.set ac.toNat (ah.mk f.id f.version f.kind f.name h f.n)) ac).bind fun _=>((X.set ac.toNat (ah.mk f.id f.version f.kind f.name h f.n))[ac.toNat]?).bind fun x=>bif (decide ((x.code.length:Int)>120))then some (.inr (ak.mk V,5))else bif U then bif Y then (idx (X.set ac.toNat (ah.mk f.id f.version f.kind f.name h f.n)) ac).bind fun _=>((X.set ac.toNat (ah.mk f.id f.version f.kind f.name h f.n))[ac.toNat]?).bind fun y=>(idx (X.set ac.toNat (ah.mk f.id f.version f.kind f.name h f.n)) ac).bind fun _=>((X.set ac.toNat (ah.mk f.id f.version f.kind f.name h f.n))[ac.toNat]?).bind fun j=>some (.inl (g,T,U,V,W,(X.set ac.toNat (ah.mk f.id f.version f.kind f.name h f.n)).set ac.toNat (ah.mk j.id (w64 (y.version+1)) j.kind j.name j.code j.n),true,Z,aa,w64 (ac+1)))
      else
       (idx (X.set ac.toNat (ah.mk f.id f.version f.kind f.name h f.n)) ac).bind fun _=>
       ((X.set ac.toNat (ah.mk f.id f.version f.kind f.name h f.n))[ac.toNat]?).bind fun z=>
       (idx (X.set ac.toNat (ah.mk f.id f.version f.kind f.name h f.n)) ac).bind fun _=>
       ((X.set ac.toNat (ah.mk f.id f.version f.kind f.name h f.n))[ac.toNat]?).bind fun A=>
       (idx (X.set ac.toNat (ah.mk f.id f.version f.kind f.name h f.n)) ac).bind fun _=>
       ((X.set ac.toNat (ah.mk f.id f.version f.kind f.name h f.n))[ac.toNat]?).bind fun k=>
       some (.inl (g,T,U,V,W,(X.set ac.toNat (ah.mk f.id f.version f.kind f.name h f.n)).set ac.toNat (ah.mk k.id (w64 (A.version+1)) k.kind k.name k.code k.n),(decide (z.version>=999)),Z,aa,w64 (ac+1)))
     else
      some (.inl (g,T,U,V,W,X.set ac.toNat (ah.mk f.id f.version f.kind f.name h f.n),Y,Z,aa,w64 (ac+1)))
    else
     (
      bif Y then
       some (ak.mk V,6)
      else
       some (ak.mk X,0)
     ).bind fun r=>some (.inr r)
   ) (H,I,J,K,L,m.cells.set N.toNat (ah.mk i.id i.version i.kind I i.code i.n),false,M,(M.length:Int),0)
  ).bind fun r=>some (.inr r)
 ) (b,c,d,a.cells,[],o,B,(decide ((F.length:Int)>0)),false,o,(o.length:Int),0)
def aa4:Fsp:=⟨96,[shT .notebook,shF .str,shF .str,shF .bool],[shT .notebook,shF .int],false,false,fun x=>pY x.1 x.2.1 x.2.2.1 x.2.2.2⟩
def kK(a:ak)(b:Str)(c:Str):Option (ak×Bool):=(bT a).bind fun i=>au (fun(⟨k,l,m,o,p,q,s⟩:Str×Str×(List ah)×(List ah)×(List ah)×Int×Int)=>bif (decide (s<q))then (idx p s).bind fun _=>(p[s.toNat]?).bind fun f=>some (.inl (k,l,m,o,p.set s.toNat (ah.mk f.id 1 f.kind f.name f.code f.n),q,w64 (s+1)))else ((nO (ak.mk p) k l false).bind fun h=>bif (h.2 != 0)then none else au (fun(⟨d,t,u,v,w⟩:(List ah)×(List ah)×(List ah)×Int×Int)=>bif (decide (w<v))then (idx d w).bind fun j=>(idx u w).bind fun _=>(u[w.toNat]?).bind fun g=>some (.inl (d,t,u.set w.toNat (ah.mk g.id j.version g.kind g.name g.code g.n),v,w64 (w+1)))else some (.inr (ak.mk u,true))) (m,o,h.1.cells,(h.1.cells.length:Int),0)).bind fun r=>some (.inr r)) (b,c,a.cells,[],i.cells,(i.cells.length:Int),0)
def Rt:Fsp:=⟨45,[shT .notebook,shF .str,shF .str],[shT .notebook,shF .bool],true,false,fun x=>kK x.1 x.2.1 x.2.2⟩
def oP(a:ak)(b:Str)(c:Str):Option (ak×Bool):=(bT a).bind fun h=>au (fun(⟨k,l,m,o,p,q,s⟩:Str×Str×(List ah)×(List ah)×(List ah)×Int×Int)=>bif (decide (s<q))then (idx p s).bind fun _=>(p[s.toNat]?).bind fun f=>some (.inl (k,l,m,o,p.set s.toNat (ah.mk f.id 1 f.kind f.name f.code f.n),q,w64 (s+1)))else ((pY (ak.mk p) k l false).bind fun g=>bif (g.2 != 0)then some (ak.mk m,false)else au (fun(⟨d,_,t,u,v⟩:(List ah)×(List ah)×(List ah)×Int×Int)=>bif (decide (v<u))then (idx d v).bind fun i=>(idx t v).bind fun j=>none else some (.inr (ak.mk t,true))) (m,o,g.1.cells,(g.1.cells.length:Int),0)).bind fun r=>some (.inr r)) (b,c,a.cells,[],h.cells,(h.cells.length:Int),0)
def Rq:Fsp:=⟨45,[shT .notebook,shF .str,shF .str],[shT .notebook,shF .bool],false,false,fun x=>oP x.1 x.2.1 x.2.2⟩
def Gz(a:List aK)(b:Int)(c:Int):Option (Int):=au (fun(⟨f,g,h,i,j⟩:Int×Int×(List aK)×Int×Int)=>bif (decide (j<i))then (idx h j).bind fun e=>bif (e.cell==f)then bif (e.version==g)then some (.inr (j))else some (.inl (f,g,h,i,w64 (j+1)))else some (.inl (f,g,h,i,w64 (j+1)))else some (.inr ((-1)))) (b,c,a,(a.length:Int),0)
def Yp:Fsp:=⟨98,[slF .tape,shF .int,shF .int],[shF .int],true,false,fun x=>Gz x.1 x.2.1 x.2.2⟩
def xY(a:aN)(b:aN):Option (Bool):=bif (a.kind==b.kind)then bif (a.n==b.n)then bif (a.text==b.text)then some ((a.time==b.time))else some (false)else some (false)else some (false)
def aa2:Fsp:=⟨193,[shT .read,shT .read],[shF .bool],true,false,fun x=>xY x.1 x.2⟩
def Eu(a:List aN)(b:aN):Option (aC×Bool):=au (fun(⟨g,h,i,j,k,l,m,o,p,q,r,s,t,u,v,w,x,y,z,A,B⟩:Int×Int×Int×Str×Int×Int×Int×Str×(List aC)×(List Str)×(List bD)×Int×Int×Int×Str×(List aC)×(List Str)×(List bD)×(List aN)×Int×Int)=>bif (decide (B<A))then (idx z B).bind fun d=>(xY (iW d) (aN.mk g h i j (aC.mk k l m o p q r))).bind fun e=>bif e then (nS (dB d.result)).bind fun f=>some (.inr (dB f,true))else some (.inl (g,h,i,j,k,l,m,o,p,q,r,s,t,u,v,w,x,y,z,A,w64 (B+1)))else some (.inr (aC.mk 0 0 0 [] [] [] [],false))) (b.kind,b.n,b.time,b.text,b.result.kind,b.result.n,b.result.step,b.result.text,b.result.list,b.result.columns,b.result.rows,0,0,0,[],[],[],[],a,(a.length:Int),0)
def abf:Fsp:=⟨150,[slF .read,shT .read],[shT .val,shF .bool],true,false,fun x=>Eu x.1 x.2⟩
def qR(a:List aN)(b:List aN):Option ((List aN)):=(nT a).bind fun f=>au (fun(⟨h,i,j,k⟩:(List aN)×(List aN)×Int×Int)=>bif (decide (k<j))then (idx i k).bind fun d=>(Eu h (iW d)).bind fun g=>bif (!g.2)then (nT [iW d]).bind fun e=>(gd (h.length+e.length)).bind fun _=>some (.inl (h++e,i,j,w64 (k+1)))else some (.inl (h,i,j,w64 (k+1)))else some (.inr (h))) (f,b,(b.length:Int),0)
def UL:Fsp:=⟨99,[slF .read,slF .read],[slF .read],true,false,fun x=>qR x.1 x.2⟩
def CB(a:aK)(b:aK):Option (Bool):=bif (decide (a.cell<b.cell))then some (true)else bif (a.cell==b.cell)then some ((decide (a.version<b.version)))else some (false)
def UA:Fsp:=⟨100,[shT .tape,shT .tape],[shF .bool],true,false,fun x=>CB x.1 x.2⟩
def yc(a:List aK)(b:Int)(c:Int)(d:List aN):Option ((List aK)):=(zV a).bind fun h=>(Gz a b c).bind fun i=>bif (decide (i>=0))then (idx h i).bind fun _=>(h[i.toNat]?).bind fun m=>(qR m.reads d).bind fun n=>(idx h i).bind fun _=>(h[i.toNat]?).bind fun l=>some (h.set i.toNat (aK.mk l.cell l.version n))else bif ((d.length:Int)==0)then some (h)else (qR [] d).bind fun o=>au (fun(⟨p,q,s,t,u⟩:(List aK)×Int×Int×Int×(List aN))=>bif (decide (q<(p.length:Int)))then (idx p q).bind fun _=>(p[q.toNat]?).bind fun j=>(CB (aK.mk s t u) j).bind fun k=>bif (!k)then some (.inl (p,w64 (q+1),s,t,u))else ((cutAt p q).bind fun f=>((if q=(f:Int)then some ()else none)).bind fun _=>(gd (0+(p.take f).length)).bind fun _=>(gd (([]++(p.take f)).length+[aK.mk s t u].length)).bind fun _=>((if q=(f:Int)then some ()else none)).bind fun _=>(gd ((([]++(p.take f))++[aK.mk s t u]).length+(p.drop f).length)).bind fun _=>some ((([]++(p.take f))++[aK.mk s t u])++(p.drop f))).bind fun r=>some (.inr r)else ((cutAt p q).bind fun g=>((if q=(g:Int)then some ()else none)).bind fun _=>(gd (0+(p.take g).length)).bind fun _=>(gd (([]++(p.take g)).length+[aK.mk s t u].length)).bind fun _=>((if q=(g:Int)then some ()else none)).bind fun _=>(gd ((([]++(p.take g))++[aK.mk s t u]).length+(p.drop g).length)).bind fun _=>some ((([]++(p.take g))++[aK.mk s t u])++(p.drop g))).bind fun r=>some (.inr r)) (h,0,b,c,o)
def adY:Fsp:=⟨47,[slF .tape,shF .int,shF .int,slF .read],[slF .tape],true,false,fun x=>yc x.1 x.2.1 x.2.2.1 x.2.2.2⟩
def ja(a:aO)(b:GOp)(c:List GOp):Option (aO):=(mQ a).bind fun d=>bif (b.kind==1)then (zW b.edit c).bind fun q=>(uM a.notebook q).bind fun e=>bif (e.2 != 0)then some (d)else bif (b.edit.kind==1)then (gU e.1 b.edit.cell.id).bind fun l=>(iQ b).bind fun r=>(idx e.1.cells l).bind fun _=>(e.1.cells[l.toNat]?).bind fun i=>some (aO.mk (ak.mk (e.1.cells.set l.toNat (ah.mk i.id r i.kind i.name i.code i.n))) d.tapes d.renames)else bif (b.edit.kind==4)then (gU e.1 b.edit.cell.id).bind fun m=>(iQ b).bind fun s=>(idx e.1.cells m).bind fun _=>(e.1.cells[m.toNat]?).bind fun f=>some (aO.mk (ak.mk (e.1.cells.set m.toNat (ah.mk f.id s f.kind f.name f.code f.n))) d.tapes d.renames)else bif (b.edit.kind==6)then (gU e.1 b.edit.cell.id).bind fun h=>(iQ b).bind fun o=>(idx e.1.cells h).bind fun _=>(e.1.cells[h.toNat]?).bind fun g=>some (aO.mk (ak.mk (e.1.cells.set h.toNat (ah.mk g.id o g.kind g.name g.code g.n))) d.tapes d.renames)else some (aO.mk e.1 d.tapes d.renames)else bif (b.kind==2)then (kK a.notebook b.src b.dst).bind fun j=>bif j.2 then (Ew b).bind fun k=>(gd (d.renames.length+[k].length)).bind fun _=>some (aO.mk j.1 d.tapes (d.renames++[k]))else some (d)else bif (b.kind==3)then (yc d.tapes b.cell b.version b.reads).bind fun p=>some (aO.mk d.notebook p d.renames)else some (d)
def Yv:Fsp:=⟨12,[shT .document,shT .op,slF .op],[shT .document],true,false,fun x=>ja x.1 x.2.1 x.2.2⟩
def zO(a:aO)(b:GOp)(c:List GOp):Option (aO):=(mQ a).bind fun d=>bif (b.kind==1)then (zW b.edit c).bind fun q=>(uM a.notebook q).bind fun e=>bif (e.2 != 0)then some (d)else bif (b.edit.kind==1)then (gU e.1 b.edit.cell.id).bind fun j=>(iQ b).bind fun r=>(idx e.1.cells j).bind fun _=>(e.1.cells[j.toNat]?).bind fun i=>some (aO.mk (ak.mk (e.1.cells.set j.toNat (ah.mk i.id r i.kind i.name i.code i.n))) d.tapes d.renames)else bif (b.edit.kind==4)then (gU e.1 b.edit.cell.id).bind fun k=>(iQ b).bind fun s=>(idx e.1.cells k).bind fun _=>(e.1.cells[k.toNat]?).bind fun f=>some (aO.mk (ak.mk (e.1.cells.set k.toNat (ah.mk f.id s f.kind f.name f.code f.n))) d.tapes d.renames)else bif (b.edit.kind==6)then (gU e.1 b.edit.cell.id).bind fun h=>(iQ b).bind fun l=>(idx e.1.cells h).bind fun _=>(e.1.cells[h.toNat]?).bind fun g=>some (aO.mk (ak.mk (e.1.cells.set h.toNat (ah.mk g.id l g.kind g.name g.code g.n))) d.tapes d.renames)else some (aO.mk e.1 d.tapes d.renames)else bif (b.kind==2)then (oP a.notebook b.src b.dst).bind fun m=>bif m.2 then (Ew b).bind fun o=>(gd (d.renames.length+[o].length)).bind fun _=>none else some (d)else bif (b.kind==3)then (yc d.tapes b.cell b.version b.reads).bind fun p=>some (aO.mk d.notebook p d.renames)else some (d)
def Yu:Fsp:=⟨12,[shT .document,shT .op,slF .op],[shT .document],true,false,fun x=>zO x.1 x.2.1 x.2.2⟩
def pX(a:aO)(b:GOp)(c:List GOp):Option (aO):=(ja a b c).or (zO a b c)
def aa3:Fsp:=⟨12,[shT .document,shT .op,slF .op],[shT .document],true,false,fun x=>pX x.1 x.2.1 x.2.2⟩
def Y7(a:List Int)(b:List Int):Option (Bool):=bif ((a.length:Int) != (b.length:Int))then some (false)else au (fun(⟨f,g,h⟩:(List Int)×(List Int)×Int)=>bif (decide (h<(f.length:Int)))then (idx f h).bind fun d=>(idx g h).bind fun e=>bif (d != e)then some (.inr (false))else some (.inl (f,g,w64 (h+1)))else some (.inr (true))) (a,b,0)
def ajS:Fsp:=⟨50,[slF .int,slF .int],[shF .bool],true,false,fun x=>Y7 x.1 x.2⟩
def SE(a:ah)(b:ah):Option (Bool):=bif (a.id != b.id)then some (false)else bif (a.version != b.version)then some (false)else bif (a.kind != b.kind)then some (false)else bif (!(a.name==b.name))then some (false)else bif (!(a.code==b.code))then some (false)else bif (a.n != b.n)then some (false)else some (true)
def ajU:Fsp:=⟨103,[shT .cell,shT .cell],[shF .bool],true,false,fun x=>SE x.1 x.2⟩
def Y8(a:dZ)(b:dZ):Option (Bool):=bif (a.kind != b.kind)then some (false)else bif (a.pos != b.pos)then some (false)else (SE a.cell b.cell).bind fun c=>bif (!c)then some (false)else some (true)
def ajT:Fsp:=⟨51,[shT .edit,shT .edit],[shF .bool],true,false,fun x=>Y8 x.1 x.2⟩
def Lc(a:List Str)(b:List Str):Option (Bool):=bif ((a.length:Int) != (b.length:Int))then some (false)else au (fun(⟨f,g,h⟩:(List Str)×(List Str)×Int)=>bif (decide (h<(f.length:Int)))then (idx f h).bind fun d=>(idx g h).bind fun e=>bif (!(d==e))then some (.inr (false))else some (.inl (f,g,w64 (h+1)))else some (.inr (true))) (a,b,0)
def abE:Fsp:=⟨195,[slF .str,slF .str],[shF .bool],true,false,fun x=>Lc x.1 x.2⟩
def Jg(a:bQ)(b:bQ):Option (Bool):=bif (a.cell != b.cell)then some (false)else bif (a.row != b.row)then some (false)else some (true)
def aei:Fsp:=⟨302,[shT .origin,shT .origin],[shF .bool],true,false,fun x=>Jg x.1 x.2⟩
def Ld(a:List bQ)(b:List bQ):Option (Bool):=bif ((a.length:Int) != (b.length:Int))then some (false)else au (fun(⟨g,h,i⟩:(List bQ)×(List bQ)×Int)=>bif (decide (i<(g.length:Int)))then (idx g i).bind fun d=>(idx h i).bind fun e=>(Jg d e).bind fun f=>bif (!f)then some (.inr (false))else some (.inl (g,h,w64 (i+1)))else some (.inr (true))) (a,b,0)
def abH:Fsp:=⟨280,[slF .origin,slF .origin],[shF .bool],true,false,fun x=>Ld x.1 x.2⟩
def afs(a:bD)(b:bD):Option (Bool):=(Y7 a.cells b.cells).bind fun c=>bif (!c)then some (false)else (Ld a.orig b.orig).bind fun d=>bif (!d)then some (false)else some (true)
def alA:Fsp:=⟨245,[shT .row,shT .row],[shF .bool],true,false,fun x=>afs x.1 x.2⟩
def aeh(a:List bD)(b:List bD):Option (Bool):=bif ((a.length:Int) != (b.length:Int))then some (false)else au (fun(⟨g,h,i⟩:(List bD)×(List bD)×Int)=>bif (decide (i<(g.length:Int)))then (idx g i).bind fun d=>(idx h i).bind fun e=>(afs d e).bind fun f=>bif (!f)then some (.inr (false))else some (.inl (g,h,w64 (i+1)))else some (.inr (true))) (a,b,0)
def ajP:Fsp:=⟨196,[slF .row,slF .row],[shF .bool],true,false,fun x=>aeh x.1 x.2⟩
def SA(reqValue:aC->aC->Option (Bool))(reqValueS:(List aC)->(List aC)->Option (Bool))(a:aC)(b:aC):Option (Bool):=bif (a.kind != b.kind)then some (false)else bif (a.n != b.n)then some (false)else bif (a.step != b.step)then some (false)else bif (!(a.text==b.text))then some (false)else (reqValueS a.list b.list).bind fun c=>bif (!c)then some (false)else (Lc a.columns b.columns).bind fun d=>bif (!d)then some (false)else (aeh a.rows b.rows).bind fun e=>bif (!e)then some (false)else some (true)
def ahc(reqValue:aC->aC->Option (Bool))(reqValueS:(List aC)->(List aC)->Option (Bool))(a:List aC)(b:List aC):Option (Bool):=bif ((a.length:Int) != (b.length:Int))then some (false)else au (fun(⟨g,h,i⟩:(List aC)×(List aC)×Int)=>bif (decide (i<(g.length:Int)))then (idx g i).bind fun d=>(idx h i).bind fun e=>(reqValue (dB d) (dB e)).bind fun f=>bif (!f)then some (.inr (false))else some (.inl (g,h,w64 (i+1)))else some (.inr (true))) (a,b,0)
def jU:Nat->(aC->aC->Option (Bool))×((List aC)->(List aC)->Option (Bool))
 | 0=>(fun _ _=>none,fun _ _=>none)
 | n+1=>(SA (jU n).1 (jU n).2,ahc (jU n).1 (jU n).2)
def Y1(a:aC)(b:aC):Option (Bool):=(jU (siz a+siz b+1)).1 a b
def ahd:Fsp:=⟨151,[shT .val,shT .val],[shF .bool],true,false,fun x=>Y1 x.1 x.2⟩
def Sz(n:Nat):Fsp:=⟨151,[shT .val,shT .val],[shF .bool],true,false,fun x=>(jU n).1 x.1 x.2⟩
def ajM(a:List aC)(b:List aC):Option (Bool):=(jU (siz a+siz b+1)).2 a b
def aef:Fsp:=⟨194,[slF .val,slF .val],[shF .bool],true,false,fun x=>ajM x.1 x.2⟩
def Nq(n:Nat):Fsp:=⟨194,[slF .val,slF .val],[shF .bool],true,false,fun x=>(jU n).2 x.1 x.2⟩
def SC(a:aN)(b:aN):Option (Bool):=bif (a.kind != b.kind)then some (false)else bif (a.n != b.n)then some (false)else bif (a.time != b.time)then some (false)else bif (!(a.text==b.text))then some (false)else (Y1 (dB a.result) (dB b.result)).bind fun c=>bif (!c)then some (false)else some (true)
def ajQ:Fsp:=⟨104,[shT .read,shT .read],[shF .bool],true,false,fun x=>SC x.1 x.2⟩
def Ou(a:List aN)(b:List aN):Option (Bool):=bif ((a.length:Int) != (b.length:Int))then some (false)else au (fun(⟨g,h,i⟩:(List aN)×(List aN)×Int)=>bif (decide (i<(g.length:Int)))then (idx g i).bind fun d=>(idx h i).bind fun e=>(SC (iW d) (iW e)).bind fun f=>bif (!f)then some (.inr (false))else some (.inl (g,h,w64 (i+1)))else some (.inr (true))) (a,b,0)
def ahi:Fsp:=⟨52,[slF .read,slF .read],[shF .bool],true,false,fun x=>Ou x.1 x.2⟩
def ahj(a:GOp)(b:GOp):Option (Bool):=bif (a.time != b.time)then some (false)else bif (a.by_ != b.by_)then some (false)else bif (a.kind != b.kind)then some (false)else (Y7 a.seen b.seen).bind fun c=>bif (!c)then some (false)else (Y8 a.edit b.edit).bind fun d=>bif (!d)then some (false)else bif (!(a.src==b.src))then some (false)else bif (!(a.dst==b.dst))then some (false)else bif (a.cell != b.cell)then some (false)else bif (a.version != b.version)then some (false)else (Ou a.reads b.reads).bind fun e=>bif (!e)then some (false)else some (true)
def ao5:Fsp:=⟨14,[shT .op,shT .op],[shF .bool],true,false,fun x=>ahj x.1 x.2⟩
def abJ(a:List GOp)(b:List GOp):Option (Bool):=bif ((a.length:Int) != (b.length:Int))then some (false)else au (fun(⟨g,h,i⟩:(List GOp)×(List GOp)×Int)=>bif (decide (i<(g.length:Int)))then (idx g i).bind fun d=>(idx h i).bind fun e=>(ahj d e).bind fun f=>bif (!f)then some (.inr (false))else some (.inl (g,h,w64 (i+1)))else some (.inr (true))) (a,b,0)
def alC:Fsp:=⟨15,[slF .op,slF .op],[shF .bool],true,false,fun x=>abJ x.1 x.2⟩
def Za(a:List ah)(b:List ah):Option (Bool):=bif ((a.length:Int) != (b.length:Int))then some (false)else au (fun(⟨g,h,i⟩:(List ah)×(List ah)×Int)=>bif (decide (i<(g.length:Int)))then (idx g i).bind fun d=>(idx h i).bind fun e=>(SE d e).bind fun f=>bif (!f)then some (.inr (false))else some (.inl (g,h,w64 (i+1)))else some (.inr (true))) (a,b,0)
def ahl:Fsp:=⟨101,[slF .cell,slF .cell],[shF .bool],true,false,fun x=>Za x.1 x.2⟩
def Aa(a:ak)(b:ak):Option (Bool):=(Za a.cells b.cells).bind fun c=>bif (!c)then some (false)else some (true)
def Y6:Fsp:=⟨48,[shT .notebook,shT .notebook],[shF .bool],true,false,fun x=>Aa x.1 x.2⟩
def Y3(a:aK)(b:aK):Option (Bool):=bif (a.cell != b.cell)then some (false)else bif (a.version != b.version)then some (false)else (Ou a.reads b.reads).bind fun c=>bif (!c)then some (false)else some (true)
def ajN:Fsp:=⟨102,[shT .tape,shT .tape],[shF .bool],true,false,fun x=>Y3 x.1 x.2⟩
def Y2(a:List aK)(b:List aK):Option (Bool):=bif ((a.length:Int) != (b.length:Int))then some (false)else au (fun(⟨g,h,i⟩:(List aK)×(List aK)×Int)=>bif (decide (i<(g.length:Int)))then (idx g i).bind fun d=>(idx h i).bind fun e=>(Y3 d e).bind fun f=>bif (!f)then some (.inr (false))else some (.inl (g,h,w64 (i+1)))else some (.inr (true))) (a,b,0)
def ahf:Fsp:=⟨49,[slF .tape,slF .tape],[shF .bool],true,false,fun x=>Y2 x.1 x.2⟩
def lI(a:aO)(b:aO):Option (Bool):=(Aa a.notebook b.notebook).bind fun c=>bif (!c)then some (false)else (Y2 a.tapes b.tapes).bind fun d=>bif (!d)then some (false)else (abJ a.renames b.renames).bind fun e=>bif (!e)then some (false)else some (true)
def Y9:Fsp:=⟨13,[shT .document,shT .document],[shF .bool],true,false,fun x=>lI x.1 x.2⟩
def xO(a:List Int)(b:Int):Option (List Int×Int):=au (fun(⟨e,f,g⟩:List Int×Int×Int)=>bif (decide (f<(e.length:Int)))then (idx e f).bind fun _=>(e[f.toNat]?).bind fun d=>(some (e.set f.toNat g)).bind fun c=>some (.inl (c,w64 (f+1),w64 (g+1)))else some (.inr (e,g))) (a,0,b)
def adD:Msp:={ fid:=55,sh:=⟨false,.list (.base .int)⟩,fn:=fun x n=>xO x n }
def dQ(a:Int):Option (Str):=bif (decide (a<=0))then some ([109,48])else au (fun (b:Int×Str)=>bif (decide (b.1>0))then (gd ((bytesOf [w8 (w64 (48+(b.1.tmod 10)))]).length+b.2.length)).bind fun _=>some (.inl (w64 (b.1.tdiv 10),(bytesOf [w8 (w64 (48+(b.1.tmod 10)))])++b.2))else ((gd ([109].length+b.2.length)).bind fun _=>some ([109]++b.2)).bind fun r=>some (.inr r)) (a,[])
def adB:Fsp:=⟨57,[shF .int],[shF .str],true,false,fun x=>dQ x⟩
def oq(a:List Str)(b:Int):Option (List Str×Int):=au (fun(⟨f,g,h⟩:List Str×Int×Int)=>bif (decide (g<(f.length:Int)))then (dQ h).bind fun c=>(idx f g).bind fun _=>(f[g.toNat]?).bind fun e=>(some (f.set g.toNat c)).bind fun d=>some (.inl (d,w64 (g+1),w64 (h+1)))else some (.inr (f,h))) (a,0,b)
def Us:Msp:={ fid:=107,sh:=⟨false,.list (.base .str)⟩,fn:=fun x n=>oq x n }
def vO(a:List bQ)(b:Int):Option (List bQ×Int):=au (fun(⟨g,h,i⟩:List bQ×Int×Int)=>bif (decide (h<(g.length:Int)))then (idx g h).bind fun _=>(g[h.toNat]?).bind fun d=>(some (g.set h.toNat (bQ.mk i d.row))).bind fun c=>(idx c h).bind fun _=>(c[h.toNat]?).bind fun e=>(some (c.set h.toNat (bQ.mk e.cell (w64 (i+1))))).bind fun f=>some (.inl (f,w64 (h+1),w64 ((w64 (i+1))+1)))else some (.inr (g,i))) (a,0,b)
def Ut:Msp:={ fid:=152,sh:=⟨false,.list (.base .origin)⟩,fn:=fun x n=>vO x n }
def xN(a:List bD)(b:Int):Option (List bD×Int):=au (fun(⟨k,l,m⟩:List bD×Int×Int)=>bif (decide (l<(k.length:Int)))then (idx k l).bind fun _=>(k[l.toNat]?).bind fun i=>(k[l.toNat]?).bind fun d=>(xO d.cells m).bind fun e=>(some (k.set l.toNat (bD.mk e.1 d.orig))).bind fun c=>(idx c l).bind fun _=>(c[l.toNat]?).bind fun j=>(c[l.toNat]?).bind fun f=>(vO f.orig e.2).bind fun g=>(some (c.set l.toNat (bD.mk f.cells g.1))).bind fun h=>some (.inl (h,w64 (l+1),g.2))else some (.inr (k,m))) (a,0,b)
def adC:Msp:={ fid:=108,sh:=⟨false,.list (.base .row)⟩,fn:=fun x n=>xN x n }
def Ce(rmarkValueS:(List aC)->Int->Option (List aC×Int))(a:List aC)(b:Int):Option (List aC×Int):=au (fun(⟨z,A,B⟩:List aC×Int×Int)=>bif (decide (A<(z.length:Int)))then (idx z A).bind fun _=>(z[A.toNat]?).bind fun h=>(some (z.set A.toNat (aC.mk B h.n h.step h.text h.list h.columns h.rows))).bind fun q=>(idx q A).bind fun _=>(q[A.toNat]?).bind fun i=>(some (q.set A.toNat (aC.mk i.kind (w64 (B+1)) i.step i.text i.list i.columns i.rows))).bind fun r=>(idx r A).bind fun _=>(r[A.toNat]?).bind fun j=>(some (r.set A.toNat (aC.mk j.kind j.n (w64 ((w64 (B+1))+1)) j.text j.list j.columns j.rows))).bind fun s=>(dQ (w64 ((w64 ((w64 (B+1))+1))+1))).bind fun u=>(idx s A).bind fun _=>(s[A.toNat]?).bind fun k=>(some (s.set A.toNat (aC.mk k.kind k.n k.step u k.list k.columns k.rows))).bind fun p=>(idx p A).bind fun _=>(p[A.toNat]?).bind fun v=>(p[A.toNat]?).bind fun c=>(rmarkValueS c.list (w64 ((w64 ((w64 ((w64 (B+1))+1))+1))+1))).bind fun l=>(some (p.set A.toNat (aC.mk c.kind c.n c.step c.text l.1 c.columns c.rows))).bind fun f=>(idx f A).bind fun _=>(f[A.toNat]?).bind fun w=>(f[A.toNat]?).bind fun d=>(oq d.columns l.2).bind fun m=>(some (f.set A.toNat (aC.mk d.kind d.n d.step d.text d.list m.1 d.rows))).bind fun g=>(idx g A).bind fun _=>(g[A.toNat]?).bind fun y=>(g[A.toNat]?).bind fun e=>(xN e.rows m.2).bind fun o=>(some (g.set A.toNat (aC.mk e.kind e.n e.step e.text e.list e.columns o.1))).bind fun t=>some (.inl (t,w64 (A+1),o.2))else some (.inr (z,B))) (a,0,b)
def kC:Nat->(List aC)->Int->Option (List aC×Int)
 | 0=>fun _ _=>none
 | n+1=>Ce (kC n)
def zx(a:List aC)(b:Int):Option (List aC×Int):=kC (siz a+1) a b
def Ff(k:Nat):Msp:={ fid:=106,sh:=⟨false,.list (.base .val)⟩,fn:=fun x n=>kC k x n }
def Yf:Msp:={ fid:=106,sh:=⟨false,.list (.base .val)⟩,fn:=fun x n=>zx x n }
def tu(a:List aN)(b:Int):Option (List aN×Int):=au (fun(⟨I,J,K⟩:List aN×Int×Int)=>bif (decide (J<(I.length:Int)))then (idx I J).bind fun _=>(I[J.toNat]?).bind fun t=>(some (I.set J.toNat (aN.mk K t.n t.time t.text (dB t.result)))).bind fun y=>(idx y J).bind fun _=>(y[J.toNat]?).bind fun u=>(some (y.set J.toNat (aN.mk u.kind (w64 (K+1)) u.time u.text (dB u.result)))).bind fun z=>(idx z J).bind fun _=>(z[J.toNat]?).bind fun v=>(some (z.set J.toNat (aN.mk v.kind v.n (w64 ((w64 (K+1))+1)) v.text (dB v.result)))).bind fun A=>(dQ (w64 ((w64 ((w64 (K+1))+1))+1))).bind fun E=>(idx A J).bind fun _=>(A[J.toNat]?).bind fun w=>(some (A.set J.toNat (aN.mk w.kind w.n w.time E (dB w.result)))).bind fun B=>(idx B J).bind fun _=>(B[J.toNat]?).bind fun f=>(some (B.set J.toNat (aN.mk f.kind f.n f.time f.text (aC.mk (w64 ((w64 ((w64 ((w64 (K+1))+1))+1))+1)) f.result.n f.result.step f.result.text f.result.list f.result.columns f.result.rows)))).bind fun m=>(idx m J).bind fun _=>(m[J.toNat]?).bind fun g=>(some (m.set J.toNat (aN.mk g.kind g.n g.time g.text (aC.mk g.result.kind (w64 ((w64 ((w64 ((w64 ((w64 (K+1))+1))+1))+1))+1)) g.result.step g.result.text g.result.list g.result.columns g.result.rows)))).bind fun o=>(idx o J).bind fun _=>(o[J.toNat]?).bind fun h=>(some (o.set J.toNat (aN.mk h.kind h.n h.time h.text (aC.mk h.result.kind h.result.n (w64 ((w64 ((w64 ((w64 ((w64 ((w64 (K+1))+1))+1))+1))+1))+1)) h.result.text h.result.list h.result.columns h.result.rows)))).bind fun p=>(dQ (w64 ((w64 ((w64 ((w64 ((w64 ((w64 ((w64 (K+1))+1))+1))+1))+1))+1))+1))).bind fun C=>(idx p J).bind fun _=>(p[J.toNat]?).bind fun i=>(some (p.set J.toNat (aN.mk i.kind i.n i.time i.text (aC.mk i.result.kind i.result.n i.result.step C i.result.list i.result.columns i.result.rows)))).bind fun j=>(idx j J).bind fun _=>(j[J.toNat]?).bind fun F=>(j[J.toNat]?).bind fun c=>(zx c.result.list (w64 ((w64 ((w64 ((w64 ((w64 ((w64 ((w64 ((w64 (K+1))+1))+1))+1))+1))+1))+1))+1))).bind fun q=>(some (j.set J.toNat (aN.mk c.kind c.n c.time c.text (aC.mk c.result.kind c.result.n c.result.step c.result.text q.1 c.result.columns c.result.rows)))).bind fun k=>(idx k J).bind fun _=>(k[J.toNat]?).bind fun G=>(k[J.toNat]?).bind fun d=>(oq d.result.columns q.2).bind fun r=>(some (k.set J.toNat (aN.mk d.kind d.n d.time d.text (aC.mk d.result.kind d.result.n d.result.step d.result.text d.result.list r.1 d.result.rows)))).bind fun l=>(idx l J).bind fun _=>(l[J.toNat]?).bind fun H=>(l[J.toNat]?).bind fun e=>(xN e.result.rows r.2).bind fun s=>(some (l.set J.toNat (aN.mk e.kind e.n e.time e.text (aC.mk e.result.kind e.result.n e.result.step e.result.text e.result.list e.result.columns s.1)))).bind fun D=>some (.inl (D,w64 (J+1),s.2))else some (.inr (I,K))) (a,0,b)
def aaI:Msp:={ fid:=56,sh:=⟨false,.list (.base .read)⟩,fn:=fun x n=>tu x n }
def IE(a:List GOp)(b:Int):Option (List GOp×Int):=au (fun(⟨U,V,W⟩:List GOp×Int×Int)=>bif (decide (V<(U.length:Int)))then (idx U V).bind fun _=>(U[V.toNat]?).bind fun s=>(some (U.set V.toNat (GOp.mk W s.by_ s.kind s.seen s.edit s.src s.dst s.cell s.version s.reads))).bind fun L=>(idx L V).bind fun _=>(L[V.toNat]?).bind fun t=>(some (L.set V.toNat (GOp.mk t.time (w64 (W+1)) t.kind t.seen t.edit t.src t.dst t.cell t.version t.reads))).bind fun M=>(idx M V).bind fun _=>(M[V.toNat]?).bind fun u=>(some (M.set V.toNat (GOp.mk u.time u.by_ (w64 ((w64 (W+1))+1)) u.seen u.edit u.src u.dst u.cell u.version u.reads))).bind fun K=>(idx K V).bind fun _=>(K[V.toNat]?).bind fun T=>(K[V.toNat]?).bind fun r=>(xO r.seen (w64 ((w64 ((w64 (W+1))+1))+1))).bind fun q=>(some (K.set V.toNat (GOp.mk r.time r.by_ r.kind q.1 r.edit r.src r.dst r.cell r.version r.reads))).bind fun w=>(idx w V).bind fun _=>(w[V.toNat]?).bind fun i=>(some (w.set V.toNat (GOp.mk i.time i.by_ i.kind i.seen (dZ.mk q.2 i.edit.pos i.edit.cell) i.src i.dst i.cell i.version i.reads))).bind fun y=>(idx y V).bind fun _=>(y[V.toNat]?).bind fun j=>(some (y.set V.toNat (GOp.mk j.time j.by_ j.kind j.seen (dZ.mk j.edit.kind (w64 (q.2+1)) j.edit.cell) j.src j.dst j.cell j.version j.reads))).bind fun z=>(idx z V).bind fun _=>(z[V.toNat]?).bind fun c=>(some (z.set V.toNat (GOp.mk c.time c.by_ c.kind c.seen (dZ.mk c.edit.kind c.edit.pos (ah.mk (w64 ((w64 (q.2+1))+1)) c.edit.cell.version c.edit.cell.kind c.edit.cell.name c.edit.cell.code c.edit.cell.n)) c.src c.dst c.cell c.version c.reads))).bind fun A=>(idx A V).bind fun _=>(A[V.toNat]?).bind fun d=>(some (A.set V.toNat (GOp.mk d.time d.by_ d.kind d.seen (dZ.mk d.edit.kind d.edit.pos (ah.mk d.edit.cell.id (w64 ((w64 ((w64 (q.2+1))+1))+1)) d.edit.cell.kind d.edit.cell.name d.edit.cell.code d.edit.cell.n)) d.src d.dst d.cell d.version d.reads))).bind fun B=>(idx B V).bind fun _=>(B[V.toNat]?).bind fun e=>(some (B.set V.toNat (GOp.mk e.time e.by_ e.kind e.seen (dZ.mk e.edit.kind e.edit.pos (ah.mk e.edit.cell.id e.edit.cell.version (w64 ((w64 ((w64 ((w64 (q.2+1))+1))+1))+1)) e.edit.cell.name e.edit.cell.code e.edit.cell.n)) e.src e.dst e.cell e.version e.reads))).bind fun C=>(dQ (w64 ((w64 ((w64 ((w64 ((w64 (q.2+1))+1))+1))+1))+1))).bind fun N=>(idx C V).bind fun _=>(C[V.toNat]?).bind fun f=>(some (C.set V.toNat (GOp.mk f.time f.by_ f.kind f.seen (dZ.mk f.edit.kind f.edit.pos (ah.mk f.edit.cell.id f.edit.cell.version f.edit.cell.kind N f.edit.cell.code f.edit.cell.n)) f.src f.dst f.cell f.version f.reads))).bind fun D=>(dQ (w64 ((w64 ((w64 ((w64 ((w64 ((w64 (q.2+1))+1))+1))+1))+1))+1))).bind fun O=>(idx D V).bind fun _=>(D[V.toNat]?).bind fun g=>(some (D.set V.toNat (GOp.mk g.time g.by_ g.kind g.seen (dZ.mk g.edit.kind g.edit.pos (ah.mk g.edit.cell.id g.edit.cell.version g.edit.cell.kind g.edit.cell.name O g.edit.cell.n)) g.src g.dst g.cell g.version g.reads))).bind fun E=>(idx E V).bind fun _=>(E[V.toNat]?).bind fun h=>(some (E.set V.toNat (GOp.mk h.time h.by_ h.kind h.seen (dZ.mk h.edit.kind h.edit.pos (ah.mk h.edit.cell.id h.edit.cell.version h.edit.cell.kind h.edit.cell.name h.edit.cell.code (w64 ((w64 ((w64 ((w64 ((w64 ((w64 ((w64 (q.2+1))+1))+1))+1))+1))+1))+1)))) h.src h.dst h.cell h.version h.reads))).bind fun F=>(dQ (w64 ((w64 ((w64 ((w64 ((w64 ((w64 ((w64 ((w64 (q.2+1))+1))+1))+1))+1))+1))+1))+1))).bind fun P=>(idx F V).bind fun _=>(F[V.toNat]?).bind fun l=>(some (F.set V.toNat (GOp.mk l.time l.by_ l.kind l.seen l.edit P l.dst l.cell l.version l.reads))).bind fun G=>(dQ (w64 ((w64 ((w64 ((w64 ((w64 ((w64 ((w64 ((w64 ((w64 (q.2+1))+1))+1))+1))+1))+1))+1))+1))+1))).bind fun Q=>
   (idx G V).bind fun _=>
   (G[V.toNat]?).bind fun m=>
   (some (G.set V.toNat (GOp.mk m.time m.by_ m.kind m.seen m.edit m.src Q m.cell m.version m.reads))).bind fun H=>
   (idx H V).bind fun _=>
   (H[V.toNat]?).bind fun o=>
   (some (H.set V.toNat (GOp.mk o.time o.by_ o.kind o.seen o.edit o.src o.dst (w64 ((w64 ((w64 ((w64 ((w64 ((w64 ((w64 ((w64 ((w64 ((w64 (q.2+1))+1))+1))+1))+1))+1))+1))+1))+1))+1)) o.version o.reads))).bind fun I=>
   (idx I V).bind fun _=>
   (I[V.toNat]?).bind fun p=>
   (some (I.set V.toNat (GOp.mk p.time p.by_ p.kind p.seen p.edit p.src p.dst p.cell (w64 ((w64 ((w64 ((w64 ((w64 ((w64 ((w64 ((w64 ((w64 ((w64 ((w64 (q.2+1))+1))+1))+1))+1))+1))+1))+1))+1))+1))+1)) p.reads))).bind fun v=>
   (idx v V).bind fun _=>
   (v[V.toNat]?).bind fun S=>
   (v[V.toNat]?).bind fun k=>
   (tu k.reads (w64 ((w64 ((w64 ((w64 ((w64 ((w64 ((w64 ((w64 ((w64 ((w64 ((w64 ((w64 (q.2+1))+1))+1))+1))+1))+1))+1))+1))+1))+1))+1))+1))).bind fun J=>
   (some (v.set V.toNat (GOp.mk k.time k.by_ k.kind k.seen k.edit k.src k.dst k.cell k.version J.1))).bind fun R=>
   some (.inl (R,w64 (V+1),J.2))
  else
   some (.inr (U,W))
 ) (a,0,b)
def agH:Msp:={ fid:=18,sh:=⟨false,.list (.base .op)⟩,fn:=fun x n=>IE x n }
def Ef(a:List ah)(b:Int):Option (List ah×Int):=au (fun(⟨r,s,t⟩:List ah×Int×Int)=>bif (decide (s<(r.length:Int)))then (idx r s).bind fun _=>(r[s.toNat]?).bind fun f=>(some (r.set s.toNat (ah.mk t f.version f.kind f.name f.code f.n))).bind fun j=>(idx j s).bind fun _=>(j[s.toNat]?).bind fun g=>(some (j.set s.toNat (ah.mk g.id (w64 (t+1)) g.kind g.name g.code g.n))).bind fun k=>(idx k s).bind fun _=>(k[s.toNat]?).bind fun h=>(some (k.set s.toNat (ah.mk h.id h.version (w64 ((w64 (t+1))+1)) h.name h.code h.n))).bind fun l=>(dQ (w64 ((w64 ((w64 (t+1))+1))+1))).bind fun q=>(idx l s).bind fun _=>(l[s.toNat]?).bind fun i=>(some (l.set s.toNat (ah.mk i.id i.version i.kind q i.code i.n))).bind fun m=>(dQ (w64 ((w64 ((w64 ((w64 (t+1))+1))+1))+1))).bind fun o=>(idx m s).bind fun _=>(m[s.toNat]?).bind fun c=>(some (m.set s.toNat (ah.mk c.id c.version c.kind c.name o c.n))).bind fun e=>(idx e s).bind fun _=>(e[s.toNat]?).bind fun d=>(some (e.set s.toNat (ah.mk d.id d.version d.kind d.name d.code (w64 ((w64 ((w64 ((w64 ((w64 (t+1))+1))+1))+1))+1))))).bind fun p=>some (.inl (p,w64 (s+1),w64 ((w64 ((w64 ((w64 ((w64 ((w64 (t+1))+1))+1))+1))+1))+1)))else some (.inr (r,t))) (a,0,b)
def aaJ:Msp:={ fid:=105,sh:=⟨false,.list (.base .cell)⟩,fn:=fun x n=>Ef x n }
def rX(a:ak)(b:Int):Option (ak×Int):=(Ef a.cells b).bind fun c=>some (ak.mk c.1,c.2)
def QK:Msp:={ fid:=53,sh:=⟨true,.base .notebook⟩,fn:=fun x n=>rX x n }
def Ee(a:List aK)(b:Int):Option (List aK×Int):=au (fun(⟨k,l,m⟩:List aK×Int×Int)=>bif (decide (l<(k.length:Int)))then (idx k l).bind fun _=>(k[l.toNat]?).bind fun f=>(some (k.set l.toNat (aK.mk m f.version f.reads))).bind fun d=>(idx d l).bind fun _=>(d[l.toNat]?).bind fun g=>(some (d.set l.toNat (aK.mk g.cell (w64 (m+1)) g.reads))).bind fun c=>(idx c l).bind fun _=>(c[l.toNat]?).bind fun j=>(c[l.toNat]?).bind fun e=>(tu e.reads (w64 ((w64 (m+1))+1))).bind fun h=>(some (c.set l.toNat (aK.mk e.cell e.version h.1))).bind fun i=>some (.inl (i,w64 (l+1),h.2))else some (.inr (k,m))) (a,0,b)
def aaH:Msp:={ fid:=54,sh:=⟨false,.list (.base .tape)⟩,fn:=fun x n=>Ee x n }
def oN(a:aO)(b:Int):Option (aO×Int):=(rX a.notebook b).bind fun c=>(Ee a.tapes c.2).bind fun d=>(IE a.renames d.2).bind fun e=>some (aO.mk c.1 d.1 e.1,e.2)
def QL:Msp:={ fid:=16,sh:=⟨true,.base .document⟩,fn:=fun x n=>oN x n }
def Yh(a:GOp)(b:Int):Option (GOp×Int):=(xO a.seen b).bind fun c=>(tu a.reads c.2).bind fun d=>some (GOp.mk a.time a.by_ a.kind c.1 a.edit a.src a.dst a.cell a.version d.1,d.2)
def ai7:Msp:={ fid:=17,sh:=⟨true,.base .op⟩,fn:=fun x n=>Yh x n }
def ED(a:List ah)(b:Int):Option (Int):=au (fun(⟨l,m,o⟩:(List ah)×Int×Int)=>bif (decide (o<(l.length:Int)))then (idx l o).bind fun d=>bif (d.id != m)then some (.inr ((-1)))else (idx l o).bind fun e=>bif (e.version != (w64 (m+1)))then some (.inr ((-1)))else (idx l o).bind fun f=>bif (f.kind != (w64 ((w64 (m+1))+1)))then some (.inr ((-1)))else (idx l o).bind fun g=>(dQ (w64 ((w64 ((w64 (m+1))+1))+1))).bind fun h=>bif (!(g.name==h))then some (.inr ((-1)))else (idx l o).bind fun i=>(dQ (w64 ((w64 ((w64 ((w64 (m+1))+1))+1))+1))).bind fun j=>bif (!(i.code==j))then some (.inr ((-1)))else (idx l o).bind fun k=>bif (k.n != (w64 ((w64 ((w64 ((w64 ((w64 (m+1))+1))+1))+1))+1)))then some (.inr ((-1)))else some (.inl (l,w64 ((w64 ((w64 ((w64 ((w64 ((w64 (m+1))+1))+1))+1))+1))+1),w64 (o+1)))else some (.inr (m))) (a,b,0)
def abt:Fsp:=⟨109,[slF .cell,shF .int],[shF .int],true,false,fun x=>ED x.1 x.2⟩
def sH(a:ak)(b:Int):Option (Int):=(ED a.cells b).bind fun c=>bif (decide (c<0))then some ((-1))else some (c)
def RX:Fsp:=⟨58,[shT .notebook,shF .int],[shF .int],true,false,fun x=>sH x.1 x.2⟩
def oD(a:List Str)(b:Int):Option (Int):=au (fun(⟨f,g,h⟩:(List Str)×Int×Int)=>bif (decide (h<(f.length:Int)))then (idx f h).bind fun d=>(dQ g).bind fun e=>bif (!(d==e))then some (.inr ((-1)))else some (.inl (f,w64 (g+1),w64 (h+1)))else some (.inr (g))) (a,b,0)
def UY:Fsp:=⟨154,[slF .str,shF .int],[shF .int],true,false,fun x=>oD x.1 x.2⟩
def Dj(a:List Int)(b:Int):Option (Int):=au (fun(⟨e,f,g⟩:(List Int)×Int×Int)=>bif (decide (g<(e.length:Int)))then (idx e g).bind fun d=>bif (d != f)then some (.inr ((-1)))else some (.inl (e,w64 (f+1),w64 (g+1)))else some (.inr (f))) (a,b,0)
def aea:Fsp:=⟨111,[slF .int,shF .int],[shF .int],true,false,fun x=>Dj x.1 x.2⟩
def vW(a:List bQ)(b:Int):Option (Int):=au (fun(⟨f,g,h⟩:(List bQ)×Int×Int)=>bif (decide (h<(f.length:Int)))then (idx f h).bind fun d=>bif (d.cell != g)then some (.inr ((-1)))else (idx f h).bind fun e=>bif (e.row != (w64 (g+1)))then some (.inr ((-1)))else some (.inl (f,w64 ((w64 (g+1))+1),w64 (h+1)))else some (.inr (g))) (a,b,0)
def UZ:Fsp:=⟨197,[slF .origin,shF .int],[shF .int],true,false,fun x=>vW x.1 x.2⟩
def yB(a:List bD)(b:Int):Option (Int):=au (fun(⟨h,i,j⟩:(List bD)×Int×Int)=>bif (decide (j<(h.length:Int)))then (idx h j).bind fun f=>(Dj f.cells i).bind fun d=>bif (decide (d<0))then some (.inr ((-1)))else (idx h j).bind fun g=>(vW g.orig d).bind fun e=>bif (decide (e<0))then some (.inr ((-1)))else some (.inl (h,e,w64 (j+1)))else some (.inr (i))) (a,b,0)
def ad9:Fsp:=⟨155,[slF .row,shF .int],[shF .int],true,false,fun x=>yB x.1 x.2⟩
def Di(rheldValueS:(List aC)->Int->Option (Int))(a:List aC)(b:Int):Option (Int):=au (fun(⟨p,q,r⟩:(List aC)×Int×Int)=>bif (decide (r<(p.length:Int)))then (idx p r).bind fun h=>bif (h.kind != q)then some (.inr ((-1)))else (idx p r).bind fun i=>bif (i.n != (w64 (q+1)))then some (.inr ((-1)))else (idx p r).bind fun j=>bif (j.step != (w64 ((w64 (q+1))+1)))then some (.inr ((-1)))else (idx p r).bind fun k=>(dQ (w64 ((w64 ((w64 (q+1))+1))+1))).bind fun l=>bif (!(k.text==l))then some (.inr ((-1)))else (idx p r).bind fun m=>(rheldValueS m.list (w64 ((w64 ((w64 ((w64 (q+1))+1))+1))+1))).bind fun g=>bif (decide (g<0))then some (.inr ((-1)))else (idx p r).bind fun o=>(oD o.columns g).bind fun d=>bif (decide (d<0))then some (.inr ((-1)))else (idx p r).bind fun f=>(yB f.rows d).bind fun e=>bif (decide (e<0))then some (.inr ((-1)))else some (.inl (p,e,w64 (r+1)))else some (.inr (q))) (a,b,0)
def lH:Nat->((List aC)->Int->Option (Int))
 | 0=>fun _ _=>none
 | n+1=>Di (lH n)
def GZ(a:List aC)(b:Int):Option (Int):=(lH (siz a+1)) a b
def YV:Fsp:=⟨153,[slF .val,shF .int],[shF .int],true,false,fun x=>GZ x.1 x.2⟩
def FD(n:Nat):Fsp:=⟨153,[slF .val,shF .int],[shF .int],true,false,fun x=>(lH n) x.1 x.2⟩
def yC(a:List aN)(b:Int):Option (Int):=au (fun(⟨u,v,w⟩:(List aN)×Int×Int)=>bif (decide (w<(u.length:Int)))then (idx u w).bind fun l=>bif (l.kind != v)then some (.inr ((-1)))else (idx u w).bind fun m=>bif (m.n != (w64 (v+1)))then some (.inr ((-1)))else (idx u w).bind fun o=>bif (o.time != (w64 ((w64 (v+1))+1)))then some (.inr ((-1)))else (idx u w).bind fun p=>(dQ (w64 ((w64 ((w64 (v+1))+1))+1))).bind fun q=>bif (!(p.text==q))then some (.inr ((-1)))else (idx u w).bind fun r=>bif (r.result.kind != (w64 ((w64 ((w64 ((w64 (v+1))+1))+1))+1)))then some (.inr ((-1)))else (idx u w).bind fun s=>bif (s.result.n != (w64 ((w64 ((w64 ((w64 ((w64 (v+1))+1))+1))+1))+1)))then some (.inr ((-1)))else (idx u w).bind fun t=>bif (t.result.step != (w64 ((w64 ((w64 ((w64 ((w64 ((w64 (v+1))+1))+1))+1))+1))+1)))then some (.inr ((-1)))else (idx u w).bind fun g=>(dQ (w64 ((w64 ((w64 ((w64 ((w64 ((w64 ((w64 (v+1))+1))+1))+1))+1))+1))+1))).bind fun h=>bif (!(g.result.text==h))then some (.inr ((-1)))else (idx u w).bind fun i=>(GZ i.result.list (w64 ((w64 ((w64 ((w64 ((w64 ((w64 ((w64 ((w64 (v+1))+1))+1))+1))+1))+1))+1))+1))).bind fun d=>bif (decide (d<0))then some (.inr ((-1)))else (idx u w).bind fun j=>(oD j.result.columns d).bind fun e=>bif (decide (e<0))then some (.inr ((-1)))else (idx u w).bind fun k=>(yB k.result.rows e).bind fun f=>bif (decide (f<0))then some (.inr ((-1)))else some (.inl (u,f,w64 (w+1)))else some (.inr (v))) (a,b,0)
def abr:Fsp:=⟨110,[slF .read,shF .int],[shF .int],true,false,fun x=>yC x.1 x.2⟩
def EC(a:List aK)(b:Int):Option (Int):=au (fun(⟨h,i,j⟩:(List aK)×Int×Int)=>bif (decide (j<(h.length:Int)))then (idx h j).bind fun e=>bif (e.cell != i)then some (.inr ((-1)))else (idx h j).bind fun f=>bif (f.version != (w64 (i+1)))then some (.inr ((-1)))else (idx h j).bind fun g=>(yC g.reads (w64 ((w64 (i+1))+1))).bind fun d=>bif (decide (d<0))then some (.inr ((-1)))else some (.inl (h,d,w64 (j+1)))else some (.inr (i))) (a,b,0)
def abq:Fsp:=⟨59,[slF .tape,shF .int],[shF .int],true,false,fun x=>EC x.1 x.2⟩
def Oo(a:List GOp)(b:Int):Option (Int):=au (fun(⟨B,C,D⟩:(List GOp)×Int×Int)=>bif (decide (D<(B.length:Int)))then (idx B D).bind fun u=>bif (u.time != C)then some (.inr ((-1)))else (idx B D).bind fun v=>bif (v.by_ != (w64 (C+1)))then some (.inr ((-1)))else (idx B D).bind fun w=>bif (w.kind != (w64 ((w64 (C+1))+1)))then some (.inr ((-1)))else (idx B D).bind fun x=>(Dj x.seen (w64 ((w64 ((w64 (C+1))+1))+1))).bind fun d=>bif (decide (d<0))then some (.inr ((-1)))else (idx B D).bind fun y=>bif (y.edit.kind != d)then some (.inr ((-1)))else (idx B D).bind fun z=>bif (z.edit.pos != (w64 (d+1)))then some (.inr ((-1)))else (idx B D).bind fun A=>bif (A.edit.cell.id != (w64 ((w64 (d+1))+1)))then some (.inr ((-1)))else (idx B D).bind fun f=>bif (f.edit.cell.version != (w64 ((w64 ((w64 (d+1))+1))+1)))then some (.inr ((-1)))else (idx B D).bind fun g=>bif (g.edit.cell.kind != (w64 ((w64 ((w64 ((w64 (d+1))+1))+1))+1)))then some (.inr ((-1)))else (idx B D).bind fun h=>(dQ (w64 ((w64 ((w64 ((w64 ((w64 (d+1))+1))+1))+1))+1))).bind fun i=>bif (!(h.edit.cell.name==i))then some (.inr ((-1)))else (idx B D).bind fun j=>(dQ (w64 ((w64 ((w64 ((w64 ((w64 ((w64 (d+1))+1))+1))+1))+1))+1))).bind fun k=>bif (!(j.edit.cell.code==k))then some (.inr ((-1)))else (idx B D).bind fun l=>bif (l.edit.cell.n != (w64 ((w64 ((w64 ((w64 ((w64 ((w64 ((w64 (d+1))+1))+1))+1))+1))+1))+1)))then some (.inr ((-1)))else (idx B D).bind fun m=>(dQ (w64 ((w64 ((w64 ((w64 ((w64 ((w64 ((w64 ((w64 (d+1))+1))+1))+1))+1))+1))+1))+1))).bind fun o=>bif (!(m.src==o))then some (.inr ((-1)))else (idx B D).bind fun p=>(dQ (w64 ((w64 ((w64 ((w64 ((w64 ((w64 ((w64 ((w64 ((w64 (d+1))+1))+1))+1))+1))+1))+1))+1))+1))).bind fun q=>bif (!(p.dst==q))then some (.inr ((-1)))else (idx B D).bind fun r=>bif (r.cell != (w64 ((w64 ((w64 ((w64 ((w64 ((w64 ((w64 ((w64 ((w64 ((w64 (d+1))+1))+1))+1))+1))+1))+1))+1))+1))+1)))then some (.inr ((-1)))else (idx B D).bind fun s=>bif (s.version != (w64 ((w64 ((w64 ((w64 ((w64 ((w64 ((w64 ((w64 ((w64 ((w64 ((w64 (d+1))+1))+1))+1))+1))+1))+1))+1))+1))+1))+1)))then some (.inr ((-1)))else (idx B D).bind fun t=>(yC t.reads (w64 ((w64 ((w64 ((w64 ((w64 ((w64 ((w64 ((w64 ((w64 ((w64 ((w64 ((w64 (d+1))+1))+1))+1))+1))+1))+1))+1))+1))+1))+1))+1))).bind fun e=>bif (decide (e<0))then some (.inr ((-1)))else some (.inl (B,e,w64 (D+1)))else some (.inr (C))) (a,b,0)
def ag3:Fsp:=⟨60,[slF .op,shF .int],[shF .int],true,false,fun x=>Oo x.1 x.2⟩
def oW(a:aO)(b:Int):Option (Int):=(sH a.notebook b).bind fun c=>bif (decide (c<0))then some ((-1))else (EC a.tapes c).bind fun d=>bif (decide (d<0))then some ((-1))else (Oo a.renames d).bind fun e=>bif (decide (e<0))then some ((-1))else some (e)
def RY:Fsp:=⟨19,[shT .document,shF .int],[shF .int],true,false,fun x=>oW x.1 x.2⟩
def FnExactReplayOp(a:aO)(b:GOp)(c:List GOp):Option (Bool):=(o9 a 1048576).bind fun B=>bif (decide (B<0))then some (true)else (ZH b B).bind fun C=>bif (decide (C<0))then some (true)else (aeM c C).bind fun D=>bif (decide (D<0))then some (true)else (nI a).bind fun E=>(ZA b).bind fun F=>(OZ c).bind fun G=>(kP E F G).bind fun i=>(nI a).bind fun j=>(ZA b).bind fun k=>(OZ c).bind fun e=>(pX j k e).bind fun f=>(lI f i).bind fun l=>bif (!l)then some (false)else (nI a).bind fun m=>(lI j m).bind fun n=>bif (!n)then some (false)else (ZA b).bind fun o=>(ahj k o).bind fun p=>bif (!p)then some (false)else (OZ c).bind fun q=>(abJ e q).bind fun r=>bif (!r)then some (false)else (oN j 1).bind fun s=>(Yh k s.2).bind fun t=>(IE e t.2).bind fun u=>bif (decide (u.2<0))then some (false)else (lI f i).bind fun v=>bif (!v)then some (false)else (oN f 1).bind fun d=>(oW d.1 1).bind fun g=>bif (decide (g<0))then some (false)else bif (g != d.2)then some (false)else (nI a).bind fun w=>(ZA b).bind fun x=>(OZ c).bind fun y=>(pX w x y).bind fun z=>(lI z i).bind fun A=>bif (!A)then some (false)else (oW d.1 1).bind fun h=>bif (decide (h<0))then some (false)else bif (h != d.2)then some (false)else some (true)
def Ju:Fsp:=⟨3,[shT .document,shT .op,slF .op],[shF .bool],true,false,fun x=>FnExactReplayOp x.1 x.2.1 x.2.2⟩
end
end Go.Proofs.YtbbmkcioplbhbaaGreatDoor
