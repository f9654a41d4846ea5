import Derived.Test.YtkebfkahdmddpaaGreatDoorTypes
set_option linter.unusedSimpArgs false
/- Cells of the right kinds are data of the type. Written by genkinds.py. -/
namespace Go.Abs
theorem eY{d:D}{k:IntKind}(h:kd d=.int k):∃n,d=.int k n:=by
 cases d<;>simp only[kd]at h<;>cases h
 exact⟨_,rfl⟩
theorem agd{d:D}(h:kd d=.bool):∃b,d=.bool b:=by
 cases d<;>simp only[kd]at h<;>cases h
 exact⟨_,rfl⟩
theorem xY{d:D}(h:kd d=.str):∃s,d=.str s:=by
 cases d<;>simp only[kd]at h<;>cases h
 exact⟨_,rfl⟩
theorem jY{d:D}{t:Ty}(h:kd d=.list t):∃xs,d=.list t xs:=by
 cases d<;>simp only[kd]at h<;>cases h
 exact⟨_,rfl⟩
def Base.kinds:Base->List Kd
 | .int=>[.int .i64] | .u8=>[.int .u8] | .bool=>[.bool] | .str=>[.str]
 | .origin=>[.int .i64,.int .i64]
 | .row=>[.list (.base .int),.list (.base .origin)]
 | .val=>[.int .i64,.int .i64,.int .i64,.str,.list (.base .val),.list (.base .str),.list (.base .row)]
 | .token=>[.int .i64,.int .i64,.int .i64,.str]
 | .expr=>[.int .i64,.int .i64,.str,.list (.base .expr)]
 | .cell=>[.int .i64,.int .i64,.int .i64,.str,.str,.int .i64]
 | .notebook=>[.list (.base .cell)]
 | .cur=>[.list (.base .u8),.int .i64,.int .i64]
 | .part=>[.int .i64,.str,.int .i64,.int .i64,.str,.list (.base .expr),.int .i64,.int .i64,.int .i64,.str,.list (.base .val),.list (.base .str),.list (.base .row),.int .i64]
 | .rd=>[.list (.base .token),.int .i64,.int .i64,.int .i64]
 | .psr=>[.list (.base .token),.int .i64,.int .i64]
def Ty.kinds:Ty->List Kd
 | .base b=>b.kinds
 | .list t=>[.list t]
theorem UU{ds:List D}(h:ds.map kd=Base.kinds .origin):∃x,vU ds=some x:=by
 obtain⟨c,d,rfl,a,h⟩:=zH.1 h;obtain⟨e,f,rfl,b,h⟩:=zH.1 h;obtain rfl:=List.map_eq_nil_iff.1 h;obtain⟨g,rfl⟩:=eY a;obtain⟨i,rfl⟩:=eY b;refine Option.isSome_iff_exists.1 ?_;simp[vU,D.eF]
theorem ab5{ds:List D}(h:ds.map kd=Base.kinds .row):∃x,ND ds=some x:=by
 obtain⟨c,d,rfl,a,h⟩:=zH.1 h;obtain⟨e,f,rfl,b,h⟩:=zH.1 h;obtain rfl:=List.map_eq_nil_iff.1 h;obtain⟨g,rfl⟩:=jY a;obtain⟨i,rfl⟩:=jY b;refine Option.isSome_iff_exists.1 ?_;simp[ND,D.eF]
theorem ab4{ds:List D}(h:ds.map kd=Base.kinds .val):∃x,NC ds=some x:=by
 obtain⟨i,j,rfl,a,h⟩:=zH.1 h;obtain⟨k,l,rfl,b,h⟩:=zH.1 h;obtain⟨m,n,rfl,c,h⟩:=zH.1 h;obtain⟨o,p,rfl,d,h⟩:=zH.1 h;obtain⟨q,r,rfl,e,h⟩:=zH.1 h;obtain⟨s,t,rfl,f,h⟩:=zH.1 h;obtain⟨u,v,rfl,g,h⟩:=zH.1 h;obtain rfl:=List.map_eq_nil_iff.1 h;obtain⟨w,rfl⟩:=eY a;obtain⟨y,rfl⟩:=eY b;obtain⟨z,rfl⟩:=eY c;obtain⟨A,rfl⟩:=xY d;obtain⟨B,rfl⟩:=jY e;obtain⟨C,rfl⟩:=jY f;obtain⟨E,rfl⟩:=jY g;refine Option.isSome_iff_exists.1 ?_;simp[NC,D.eF]
theorem Xd{ds:List D}(h:ds.map kd=Base.kinds .token):∃x,zY ds=some x:=by
 obtain⟨e,f,rfl,a,h⟩:=zH.1 h;obtain⟨g,i,rfl,b,h⟩:=zH.1 h;obtain⟨j,k,rfl,c,h⟩:=zH.1 h;obtain⟨l,m,rfl,d,h⟩:=zH.1 h;obtain rfl:=List.map_eq_nil_iff.1 h;obtain⟨n,rfl⟩:=eY a;obtain⟨o,rfl⟩:=eY b;obtain⟨p,rfl⟩:=eY c;obtain⟨q,rfl⟩:=xY d;refine Option.isSome_iff_exists.1 ?_;simp[zY,D.eF]
theorem Zq{ds:List D}(h:ds.map kd=Base.kinds .expr):∃x,FP ds=some x:=by
 obtain⟨e,f,rfl,a,h⟩:=zH.1 h;obtain⟨g,i,rfl,b,h⟩:=zH.1 h;obtain⟨j,k,rfl,c,h⟩:=zH.1 h;obtain⟨l,m,rfl,d,h⟩:=zH.1 h;obtain rfl:=List.map_eq_nil_iff.1 h;obtain⟨n,rfl⟩:=eY a;obtain⟨o,rfl⟩:=eY b;obtain⟨p,rfl⟩:=xY c;obtain⟨q,rfl⟩:=jY d;refine Option.isSome_iff_exists.1 ?_;simp[FP,D.eF]
theorem Zr{ds:List D}(h:ds.map kd=Base.kinds .cell):∃x,of_cell ds=some x:=by
 obtain⟨g,i,rfl,a,h⟩:=zH.1 h;obtain⟨j,k,rfl,b,h⟩:=zH.1 h;obtain⟨l,m,rfl,c,h⟩:=zH.1 h;obtain⟨n,o,rfl,d,h⟩:=zH.1 h;obtain⟨p,q,rfl,e,h⟩:=zH.1 h;obtain⟨r,s,rfl,f,h⟩:=zH.1 h;obtain rfl:=List.map_eq_nil_iff.1 h;obtain⟨t,rfl⟩:=eY a;obtain⟨u,rfl⟩:=eY b;obtain⟨v,rfl⟩:=eY c;obtain⟨w,rfl⟩:=xY d;obtain⟨y,rfl⟩:=xY e;obtain⟨z,rfl⟩:=eY f;refine Option.isSome_iff_exists.1 ?_;simp[of_cell,D.eF]
theorem N9{ds:List D}(h:ds.map kd=Base.kinds .notebook):∃x,qy ds=some x:=by
 obtain⟨b,c,rfl,a,h⟩:=zH.1 h;obtain rfl:=List.map_eq_nil_iff.1 h;obtain⟨d,rfl⟩:=jY a;refine Option.isSome_iff_exists.1 ?_;simp[qy,D.eF]
theorem ab7{ds:List D}(h:ds.map kd=Base.kinds .cur):∃x,NG ds=some x:=by
 obtain⟨d,e,rfl,a,h⟩:=zH.1 h;obtain⟨f,g,rfl,b,h⟩:=zH.1 h;obtain⟨i,j,rfl,c,h⟩:=zH.1 h;obtain rfl:=List.map_eq_nil_iff.1 h;obtain⟨k,rfl⟩:=jY a;obtain⟨l,rfl⟩:=eY b;obtain⟨m,rfl⟩:=eY c;refine Option.isSome_iff_exists.1 ?_;simp[NG,D.eF]
theorem Zp{ds:List D}(h:ds.map kd=Base.kinds .part):∃x,FO ds=some x:=by
 obtain⟨C,E,rfl,e,h⟩:=zH.1 h;obtain⟨F,G,rfl,f,h⟩:=zH.1 h;obtain⟨H,I,rfl,g,h⟩:=zH.1 h;obtain⟨J,K,rfl,i,h⟩:=zH.1 h;obtain⟨L,M,rfl,j,h⟩:=zH.1 h;obtain⟨N,O,rfl,k,h⟩:=zH.1 h;obtain⟨P,Q,rfl,l,h⟩:=zH.1 h;obtain⟨R,S,rfl,m,h⟩:=zH.1 h;obtain⟨T,U,rfl,n,h⟩:=zH.1 h;obtain⟨V,W,rfl,o,h⟩:=zH.1 h;obtain⟨p,q,rfl,a,h⟩:=zH.1 h;obtain⟨r,s,rfl,b,h⟩:=zH.1 h;obtain⟨t,u,rfl,c,h⟩:=zH.1 h;obtain⟨v,w,rfl,d,h⟩:=zH.1 h;obtain rfl:=List.map_eq_nil_iff.1 h;obtain⟨X,rfl⟩:=eY e;obtain⟨Y,rfl⟩:=xY f;obtain⟨Z,rfl⟩:=eY g;obtain⟨x3,rfl⟩:=eY i;obtain⟨x4,rfl⟩:=xY j;obtain⟨x5,rfl⟩:=jY k;obtain⟨x6,rfl⟩:=eY l;obtain⟨x7,rfl⟩:=eY m;obtain⟨x8,rfl⟩:=eY n;obtain⟨x9,rfl⟩:=xY o;obtain⟨y,rfl⟩:=jY a;obtain⟨z,rfl⟩:=jY b;obtain⟨A,rfl⟩:=jY c;obtain⟨B,rfl⟩:=eY d;refine Option.isSome_iff_exists.1 ?_;simp[FO,D.eF]
theorem aei{ds:List D}(h:ds.map kd=Base.kinds .rd):∃x,WT ds=some x:=by
 obtain⟨e,f,rfl,a,h⟩:=zH.1 h;obtain⟨g,i,rfl,b,h⟩:=zH.1 h;obtain⟨j,k,rfl,c,h⟩:=zH.1 h;obtain⟨l,m,rfl,d,h⟩:=zH.1 h;obtain rfl:=List.map_eq_nil_iff.1 h;obtain⟨n,rfl⟩:=jY a;obtain⟨o,rfl⟩:=eY b;obtain⟨p,rfl⟩:=eY c;obtain⟨q,rfl⟩:=eY d;refine Option.isSome_iff_exists.1 ?_;simp[WT,D.eF]
theorem ab6{ds:List D}(h:ds.map kd=Base.kinds .psr):∃x,NE ds=some x:=by
 obtain⟨d,e,rfl,a,h⟩:=zH.1 h;obtain⟨f,g,rfl,b,h⟩:=zH.1 h;obtain⟨i,j,rfl,c,h⟩:=zH.1 h;obtain rfl:=List.map_eq_nil_iff.1 h;obtain⟨k,rfl⟩:=jY a;obtain⟨l,rfl⟩:=eY b;obtain⟨m,rfl⟩:=eY c;refine Option.isSome_iff_exists.1 ?_;simp[NE,D.eF]
theorem CZ{t:Ty}{ds:List D}(h:ds.map kd=t.kinds):∃x,t.iO ds=some x:=by
 cases t with
 | list t=>
  obtain⟨d,r,rfl,a,h⟩:=zH.1 h;obtain rfl:=List.map_eq_nil_iff.1 h;obtain⟨xs,rfl⟩:=jY a;exact⟨xs,by simp[Ty.iO,D.eF]⟩
 | base b=>
  cases b
  case int=>
   obtain⟨d,r,rfl,a,h⟩:=zH.1 h
   obtain rfl:=List.map_eq_nil_iff.1 h
   obtain⟨n,rfl⟩:=eY a
   exact⟨n,rfl⟩
  case u8=>
   obtain⟨d,r,rfl,a,h⟩:=zH.1 h
   obtain rfl:=List.map_eq_nil_iff.1 h
   obtain⟨n,rfl⟩:=eY a
   exact⟨n,rfl⟩
  case bool=>
   obtain⟨d,r,rfl,a,h⟩:=zH.1 h
   obtain rfl:=List.map_eq_nil_iff.1 h
   obtain⟨n,rfl⟩:=agd a
   exact⟨n,rfl⟩
  case str=>
   obtain⟨d,r,rfl,a,h⟩:=zH.1 h
   obtain rfl:=List.map_eq_nil_iff.1 h
   obtain⟨n,rfl⟩:=xY a
   exact⟨n,rfl⟩
  case origin=>exact UU h
  case row=>exact ab5 h
  case val=>exact ab4 h
  case token=>exact Xd h
  case expr=>exact Zq h
  case cell=>exact Zr h
  case notebook=>exact N9 h
  case cur=>exact ab7 h
  case part=>exact Zp h
  case rd=>exact aei h
  case psr=>exact ab6 h
end Go.Abs
