import Derived.Test.YtjbajpfonnnfoaaGreatDoorAbs
set_option linter.unusedSimpArgs false
/- Cells of the right kinds are data of the type. Written by genkinds.py. -/
namespace Go.Abs
theorem bZ{d:D}{k:IntKind}(h:kd d=.int k):∃n,d=.int k n:=by
 cases d<;>simp only[kd]at h<;>cases h
 exact⟨_,rfl⟩
theorem aaM{d:D}(h:kd d=.bool):∃b,d=.bool b:=by
 cases d<;>simp only[kd]at h<;>cases h
 exact⟨_,rfl⟩
theorem kK{d:D}(h:kd d=.str):∃s,d=.str s:=by
 cases d<;>simp only[kd]at h<;>cases h
 exact⟨_,rfl⟩
theorem eF{d:D}{t:Ty}(h:kd d=.list t):∃xs,d=.list t xs:=by
 cases d<;>simp only[kd]at h<;>cases h
 exact⟨_,rfl⟩
def Base.kinds:Base->List Kd
 | .int=>[.int .i64] | .u8=>[.int .u8] | .bool=>[.bool] | .str=>[.str]
 | .origin=>[.int .i64,.int .i64]
 | .row=>[.list (.base .int),.list (.base .origin)]
 | .val=>[.int .i64,.int .i64,.int .i64,.str,.list (.base .val),.list (.base .str),.list (.base .row)]
 | .expr=>[.int .i64,.int .i64,.str,.list (.base .expr)]
 | .file=>[.str,.int .i64]
 | .read=>[.int .i64,.int .i64,.int .i64,.str,.int .i64,.int .i64,.int .i64,.str,.list (.base .val),.list (.base .str),.list (.base .row)]
 | .binding=>[.str,.int .i64,.int .i64,.int .i64,.str,.list (.base .val),.list (.base .str),.list (.base .row)]
 | .cell=>[.int .i64,.int .i64,.int .i64,.str,.str,.int .i64]
 | .edit=>[.int .i64,.int .i64,.int .i64,.int .i64,.int .i64,.str,.str,.int .i64]
 | .tape=>[.int .i64,.int .i64,.list (.base .read)]
 | .notebook=>[.list (.base .cell)]
 | .op=>[.int .i64,.int .i64,.int .i64,.list (.base .int),.int .i64,.int .i64,.int .i64,.int .i64,.int .i64,.str,.str,.int .i64,.str,.str,.int .i64,.int .i64,.list (.base .read)]
 | .document=>[.list (.base .cell),.list (.base .tape),.list (.base .op)]
 | .world=>[.int .i64,.int .i64,.list (.base .file)]
 | .cur=>[.list (.base .u8),.int .i64,.int .i64]
 | .outcome=>[.int .i64,.int .i64,.int .i64,.str,.list (.base .val),.list (.base .str),.list (.base .row),.list (.base .read),.int .i64]
 | .iD=>[.list (.base .read),.int .i64,.int .i64,.list (.base .file),.int .i64,.int .i64,.list (.base .read),.int .i64,.bool]
def Ty.kinds:Ty->List Kd
 | .base b=>b.kinds
 | .list t=>[.list t]
theorem UW{ds:List D}(h:ds.map kd=Base.kinds .origin):∃x,wK ds=some x:=by
 obtain⟨c,d,rfl,a,h⟩:=zH.1 h;obtain⟨e,f,rfl,b,h⟩:=zH.1 h;obtain rfl:=List.map_eq_nil_iff.1 h;obtain⟨g,rfl⟩:=bZ a;obtain⟨i,rfl⟩:=bZ b;refine Option.isSome_iff_exists.1 ?_;simp[wK,D.dh]
theorem ack{ds:List D}(h:ds.map kd=Base.kinds .row):∃x,NC ds=some x:=by
 obtain⟨c,d,rfl,a,h⟩:=zH.1 h;obtain⟨e,f,rfl,b,h⟩:=zH.1 h;obtain rfl:=List.map_eq_nil_iff.1 h;obtain⟨g,rfl⟩:=eF a;obtain⟨i,rfl⟩:=eF b;refine Option.isSome_iff_exists.1 ?_;simp[NC,D.dh]
theorem acj{ds:List D}(h:ds.map kd=Base.kinds .val):∃x,Nz ds=some x:=by
 obtain⟨i,j,rfl,a,h⟩:=zH.1 h;obtain⟨k,l,rfl,b,h⟩:=zH.1 h;obtain⟨m,n,rfl,c,h⟩:=zH.1 h;obtain⟨o,p,rfl,d,h⟩:=zH.1 h;obtain⟨q,r,rfl,e,h⟩:=zH.1 h;obtain⟨s,t,rfl,f,h⟩:=zH.1 h;obtain⟨u,v,rfl,g,h⟩:=zH.1 h;obtain rfl:=List.map_eq_nil_iff.1 h;obtain⟨w,rfl⟩:=bZ a;obtain⟨y,rfl⟩:=bZ b;obtain⟨z,rfl⟩:=bZ c;obtain⟨A,rfl⟩:=kK d;obtain⟨B,rfl⟩:=eF e;obtain⟨C,rfl⟩:=eF f;obtain⟨E,rfl⟩:=eF g;refine Option.isSome_iff_exists.1 ?_;simp[Nz,D.dh]
theorem Zt{ds:List D}(h:ds.map kd=Base.kinds .expr):∃x,Fz ds=some x:=by
 obtain⟨e,f,rfl,a,h⟩:=zH.1 h;obtain⟨g,i,rfl,b,h⟩:=zH.1 h;obtain⟨j,k,rfl,c,h⟩:=zH.1 h;obtain⟨l,m,rfl,d,h⟩:=zH.1 h;obtain rfl:=List.map_eq_nil_iff.1 h;obtain⟨n,rfl⟩:=bZ a;obtain⟨o,rfl⟩:=bZ b;obtain⟨p,rfl⟩:=kK c;obtain⟨q,rfl⟩:=eF d;refine Option.isSome_iff_exists.1 ?_;simp[Fz,D.dh]
theorem Zr{ds:List D}(h:ds.map kd=Base.kinds .file):∃x,Fv ds=some x:=by
 obtain⟨c,d,rfl,a,h⟩:=zH.1 h;obtain⟨e,f,rfl,b,h⟩:=zH.1 h;obtain rfl:=List.map_eq_nil_iff.1 h;obtain⟨g,rfl⟩:=kK a;obtain⟨i,rfl⟩:=bZ b;refine Option.isSome_iff_exists.1 ?_;simp[Fv,D.dh]
theorem Zp{ds:List D}(h:ds.map kd=Base.kinds .read):∃x,Fj ds=some x:=by
 obtain⟨p,q,rfl,b,h⟩:=zH.1 h;obtain⟨r,s,rfl,c,h⟩:=zH.1 h;obtain⟨t,u,rfl,d,h⟩:=zH.1 h;obtain⟨v,w,rfl,e,h⟩:=zH.1 h;obtain⟨y,z,rfl,f,h⟩:=zH.1 h;obtain⟨A,B,rfl,g,h⟩:=zH.1 h;obtain⟨C,E,rfl,i,h⟩:=zH.1 h;obtain⟨F,G,rfl,j,h⟩:=zH.1 h;obtain⟨H,I,rfl,k,h⟩:=zH.1 h;obtain⟨J,K,rfl,l,h⟩:=zH.1 h;obtain⟨m,n,rfl,a,h⟩:=zH.1 h;obtain rfl:=List.map_eq_nil_iff.1 h;obtain⟨L,rfl⟩:=bZ b;obtain⟨M,rfl⟩:=bZ c;obtain⟨N,rfl⟩:=bZ d;obtain⟨O,rfl⟩:=kK e;obtain⟨P,rfl⟩:=bZ f;obtain⟨Q,rfl⟩:=bZ g;obtain⟨R,rfl⟩:=bZ i;obtain⟨S,rfl⟩:=kK j;obtain⟨T,rfl⟩:=eF k;obtain⟨U,rfl⟩:=eF l;obtain⟨o,rfl⟩:=eF a;refine Option.isSome_iff_exists.1 ?_;simp[Fj,D.dh]
theorem Qs{ds:List D}(h:ds.map kd=Base.kinds .binding):∃x,sF ds=some x:=by
 obtain⟨j,k,rfl,a,h⟩:=zH.1 h;obtain⟨l,m,rfl,b,h⟩:=zH.1 h;obtain⟨n,o,rfl,c,h⟩:=zH.1 h;obtain⟨p,q,rfl,d,h⟩:=zH.1 h;obtain⟨r,s,rfl,e,h⟩:=zH.1 h;obtain⟨t,u,rfl,f,h⟩:=zH.1 h;obtain⟨v,w,rfl,g,h⟩:=zH.1 h;obtain⟨y,z,rfl,i,h⟩:=zH.1 h;obtain rfl:=List.map_eq_nil_iff.1 h;obtain⟨A,rfl⟩:=kK a;obtain⟨B,rfl⟩:=bZ b;obtain⟨C,rfl⟩:=bZ c;obtain⟨E,rfl⟩:=bZ d;obtain⟨F,rfl⟩:=kK e;obtain⟨G,rfl⟩:=eF f;obtain⟨H,rfl⟩:=eF g;obtain⟨I,rfl⟩:=eF i;refine Option.isSome_iff_exists.1 ?_;simp[sF,D.dh]
theorem Zv{ds:List D}(h:ds.map kd=Base.kinds .cell):∃x,of_cell ds=some x:=by
 obtain⟨g,i,rfl,a,h⟩:=zH.1 h;obtain⟨j,k,rfl,b,h⟩:=zH.1 h;obtain⟨l,m,rfl,c,h⟩:=zH.1 h;obtain⟨n,o,rfl,d,h⟩:=zH.1 h;obtain⟨p,q,rfl,e,h⟩:=zH.1 h;obtain⟨r,s,rfl,f,h⟩:=zH.1 h;obtain rfl:=List.map_eq_nil_iff.1 h;obtain⟨t,rfl⟩:=bZ a;obtain⟨u,rfl⟩:=bZ b;obtain⟨v,rfl⟩:=bZ c;obtain⟨w,rfl⟩:=kK d;obtain⟨y,rfl⟩:=kK e;obtain⟨z,rfl⟩:=bZ f;refine Option.isSome_iff_exists.1 ?_;simp[of_cell,D.dh]
theorem Zu{ds:List D}(h:ds.map kd=Base.kinds .edit):∃x,FB ds=some x:=by
 obtain⟨j,k,rfl,a,h⟩:=zH.1 h;obtain⟨l,m,rfl,b,h⟩:=zH.1 h;obtain⟨n,o,rfl,c,h⟩:=zH.1 h;obtain⟨p,q,rfl,d,h⟩:=zH.1 h;obtain⟨r,s,rfl,e,h⟩:=zH.1 h;obtain⟨t,u,rfl,f,h⟩:=zH.1 h;obtain⟨v,w,rfl,g,h⟩:=zH.1 h;obtain⟨y,z,rfl,i,h⟩:=zH.1 h;obtain rfl:=List.map_eq_nil_iff.1 h;obtain⟨A,rfl⟩:=bZ a;obtain⟨B,rfl⟩:=bZ b;obtain⟨C,rfl⟩:=bZ c;obtain⟨E,rfl⟩:=bZ d;obtain⟨F,rfl⟩:=bZ e;obtain⟨G,rfl⟩:=kK f;obtain⟨H,rfl⟩:=kK g;obtain⟨I,rfl⟩:=bZ i;refine Option.isSome_iff_exists.1 ?_;simp[FB,D.dh]
theorem Zo{ds:List D}(h:ds.map kd=Base.kinds .tape):∃x,Fh ds=some x:=by
 obtain⟨d,e,rfl,a,h⟩:=zH.1 h;obtain⟨f,g,rfl,b,h⟩:=zH.1 h;obtain⟨i,j,rfl,c,h⟩:=zH.1 h;obtain rfl:=List.map_eq_nil_iff.1 h;obtain⟨k,rfl⟩:=bZ a;obtain⟨l,rfl⟩:=bZ b;obtain⟨m,rfl⟩:=eF c;refine Option.isSome_iff_exists.1 ?_;simp[Fh,D.dh]
theorem NU{ds:List D}(h:ds.map kd=Base.kinds .notebook):∃x,pX ds=some x:=by
 obtain⟨b,c,rfl,a,h⟩:=zH.1 h;obtain rfl:=List.map_eq_nil_iff.1 h;obtain⟨d,rfl⟩:=eF a;refine Option.isSome_iff_exists.1 ?_;simp[pX,D.dh]
theorem aeM{ds:List D}(h:ds.map kd=Base.kinds .op):∃x,WX ds=some x:=by
 obtain⟨P,Q,rfl,i,h⟩:=zH.1 h;obtain⟨R,S,rfl,j,h⟩:=zH.1 h;obtain⟨T,U,rfl,k,h⟩:=zH.1 h;obtain⟨V,W,rfl,l,h⟩:=zH.1 h;obtain⟨X,Y,rfl,m,h⟩:=zH.1 h;obtain⟨Z,r5,rfl,n,h⟩:=zH.1 h;obtain⟨d6,r6,rfl,o,h⟩:=zH.1 h;obtain⟨d7,r7,rfl,p,h⟩:=zH.1 h;obtain⟨d8,r8,rfl,q,h⟩:=zH.1 h;obtain⟨d9,r9,rfl,r,h⟩:=zH.1 h;obtain⟨s,t,rfl,a,h⟩:=zH.1 h;obtain⟨u,v,rfl,b,h⟩:=zH.1 h;obtain⟨w,y,rfl,c,h⟩:=zH.1 h;obtain⟨z,A,rfl,d,h⟩:=zH.1 h;obtain⟨B,C,rfl,e,h⟩:=zH.1 h;obtain⟨E,F,rfl,f,h⟩:=zH.1 h;obtain⟨G,H,rfl,g,h⟩:=zH.1 h;obtain rfl:=List.map_eq_nil_iff.1 h;obtain⟨x0,rfl⟩:=bZ i;obtain⟨x1,rfl⟩:=bZ j;obtain⟨x2,rfl⟩:=bZ k;obtain⟨x3,rfl⟩:=eF l;obtain⟨x4,rfl⟩:=bZ m;obtain⟨x5,rfl⟩:=bZ n;obtain⟨x6,rfl⟩:=bZ o;obtain⟨x7,rfl⟩:=bZ p;obtain⟨x8,rfl⟩:=bZ q;obtain⟨x9,rfl⟩:=kK r;obtain⟨I,rfl⟩:=kK a;obtain⟨J,rfl⟩:=bZ b;obtain⟨K,rfl⟩:=kK c;obtain⟨L,rfl⟩:=kK d;obtain⟨M,rfl⟩:=bZ e;obtain⟨N,rfl⟩:=bZ f;obtain⟨O,rfl⟩:=eF g;refine Option.isSome_iff_exists.1 ?_;simp[WX,D.dh]
theorem NV{ds:List D}(h:ds.map kd=Base.kinds .document):∃x,pY ds=some x:=by
 obtain⟨d,e,rfl,a,h⟩:=zH.1 h;obtain⟨f,g,rfl,b,h⟩:=zH.1 h;obtain⟨i,j,rfl,c,h⟩:=zH.1 h;obtain rfl:=List.map_eq_nil_iff.1 h;obtain⟨k,rfl⟩:=eF a;obtain⟨l,rfl⟩:=eF b;obtain⟨m,rfl⟩:=eF c;refine Option.isSome_iff_exists.1 ?_;simp[pY,D.dh]
theorem Xi{ds:List D}(h:ds.map kd=Base.kinds .world):∃x,Ae ds=some x:=by
 obtain⟨d,e,rfl,a,h⟩:=zH.1 h;obtain⟨f,g,rfl,b,h⟩:=zH.1 h;obtain⟨i,j,rfl,c,h⟩:=zH.1 h;obtain rfl:=List.map_eq_nil_iff.1 h;obtain⟨k,rfl⟩:=bZ a;obtain⟨l,rfl⟩:=bZ b;obtain⟨m,rfl⟩:=eF c;refine Option.isSome_iff_exists.1 ?_;simp[Ae,D.dh]
theorem acn{ds:List D}(h:ds.map kd=Base.kinds .cur):∃x,NE ds=some x:=by
 obtain⟨d,e,rfl,a,h⟩:=zH.1 h;obtain⟨f,g,rfl,b,h⟩:=zH.1 h;obtain⟨i,j,rfl,c,h⟩:=zH.1 h;obtain rfl:=List.map_eq_nil_iff.1 h;obtain⟨k,rfl⟩:=eF a;obtain⟨l,rfl⟩:=bZ b;obtain⟨m,rfl⟩:=bZ c;refine Option.isSome_iff_exists.1 ?_;simp[NE,D.dh]
theorem Qr{ds:List D}(h:ds.map kd=Base.kinds .outcome):∃x,sD ds=some x:=by
 obtain⟨k,l,rfl,a,h⟩:=zH.1 h;obtain⟨m,n,rfl,b,h⟩:=zH.1 h;obtain⟨o,p,rfl,c,h⟩:=zH.1 h;obtain⟨q,r,rfl,d,h⟩:=zH.1 h;obtain⟨s,t,rfl,e,h⟩:=zH.1 h;obtain⟨u,v,rfl,f,h⟩:=zH.1 h;obtain⟨w,y,rfl,g,h⟩:=zH.1 h;obtain⟨z,A,rfl,i,h⟩:=zH.1 h;obtain⟨B,C,rfl,j,h⟩:=zH.1 h;obtain rfl:=List.map_eq_nil_iff.1 h;obtain⟨E,rfl⟩:=bZ a;obtain⟨F,rfl⟩:=bZ b;obtain⟨G,rfl⟩:=bZ c;obtain⟨H,rfl⟩:=kK d;obtain⟨I,rfl⟩:=eF e;obtain⟨J,rfl⟩:=eF f;obtain⟨K,rfl⟩:=eF g;obtain⟨L,rfl⟩:=eF i;obtain⟨M,rfl⟩:=bZ j;refine Option.isSome_iff_exists.1 ?_;simp[sD,D.dh]
theorem Zq{ds:List D}(h:ds.map kd=Base.kinds .iD):∃x,Fq ds=some x:=by
 obtain⟨k,l,rfl,a,h⟩:=zH.1 h;obtain⟨m,n,rfl,b,h⟩:=zH.1 h;obtain⟨o,p,rfl,c,h⟩:=zH.1 h;obtain⟨q,r,rfl,d,h⟩:=zH.1 h;obtain⟨s,t,rfl,e,h⟩:=zH.1 h;obtain⟨u,v,rfl,f,h⟩:=zH.1 h;obtain⟨w,y,rfl,g,h⟩:=zH.1 h;obtain⟨z,A,rfl,i,h⟩:=zH.1 h;obtain⟨B,C,rfl,j,h⟩:=zH.1 h;obtain rfl:=List.map_eq_nil_iff.1 h;obtain⟨E,rfl⟩:=eF a;obtain⟨F,rfl⟩:=bZ b;obtain⟨G,rfl⟩:=bZ c;obtain⟨H,rfl⟩:=eF d;obtain⟨I,rfl⟩:=bZ e;obtain⟨J,rfl⟩:=bZ f;obtain⟨K,rfl⟩:=eF g;obtain⟨L,rfl⟩:=bZ i;obtain⟨M,rfl⟩:=aaM j;refine Option.isSome_iff_exists.1 ?_;simp[Fq,D.dh]
theorem CV{t:Ty}{ds:List D}(h:ds.map kd=t.kinds):∃x,t.iw ds=some x:=by
 cases t with
 | list t=>
  obtain⟨d,r,rfl,a,h⟩:=zH.1 h;obtain rfl:=List.map_eq_nil_iff.1 h;obtain⟨xs,rfl⟩:=eF a;exact⟨xs,by simp[Ty.iw,D.dh]⟩
 | base b=>
  cases b
  case int=>
   obtain⟨d,r,rfl,a,h⟩:=zH.1 h
   obtain rfl:=List.map_eq_nil_iff.1 h
   obtain⟨n,rfl⟩:=bZ a
   exact⟨n,rfl⟩
  case u8=>
   obtain⟨d,r,rfl,a,h⟩:=zH.1 h
   obtain rfl:=List.map_eq_nil_iff.1 h
   obtain⟨n,rfl⟩:=bZ a
   exact⟨n,rfl⟩
  case bool=>
   obtain⟨d,r,rfl,a,h⟩:=zH.1 h
   obtain rfl:=List.map_eq_nil_iff.1 h
   obtain⟨n,rfl⟩:=aaM a
   exact⟨n,rfl⟩
  case str=>
   obtain⟨d,r,rfl,a,h⟩:=zH.1 h
   obtain rfl:=List.map_eq_nil_iff.1 h
   obtain⟨n,rfl⟩:=kK a
   exact⟨n,rfl⟩
  case origin=>exact UW h
  case row=>exact ack h
  case val=>exact acj h
  case expr=>exact Zt h
  case file=>exact Zr h
  case read=>exact Zp h
  case binding=>exact Qs h
  case cell=>exact Zv h
  case edit=>exact Zu h
  case tape=>exact Zo h
  case notebook=>exact NU h
  case op=>exact aeM h
  case document=>exact NV h
  case world=>exact Xi h
  case cur=>exact acn h
  case outcome=>exact Qr h
  case iD=>exact Zq h
