import Derived.Test.YtjbajpfonnnfoaaGreatDoorAbs
set_option linter.unusedSimpArgs false
/- Cells of the right kinds are data of the type. Written by genkinds.py. -/
namespace Go.Abs
theorem bW{d:D}{k:IntKind}(h:kd d=.int k):∃n,d=.int k n:=by
 cases d<;>simp only[kd]at h<;>cases h
 exact⟨_,rfl⟩
theorem aaQ{d:D}(h:kd d=.bool):∃b,d=.bool b:=by
 cases d<;>simp only[kd]at h<;>cases h
 exact⟨_,rfl⟩
theorem kG{d:D}(h:kd d=.str):∃s,d=.str s:=by
 cases d<;>simp only[kd]at h<;>cases h
 exact⟨_,rfl⟩
theorem eG{d:D}{t:Ty}(h:kd d=.list t):∃xs,d=.list t xs:=by
 cases d<;>simp only[kd]at h<;>cases h
 exact⟨_,rfl⟩
def Base.kinds:Base->List Kd
 | .int=>[.int .i64] | .u8=>[.int .u8] | .bool=>[.bool] | .str=>[.str]
 | .origin=>[.int .i64,.int .i64]
 | .row=>[.list (.base .int),.list (.base .origin)]
 | .val=>[.int .i64,.int .i64,.int .i64,.str,.list (.base .val),.list (.base .str),.list (.base .row)]
 | .expr=>[.int .i64,.int .i64,.str,.list (.base .expr)]
 | .file=>[.str,.int .i64]
 | .read=>[.int .i64,.int .i64,.int .i64,.str,.int .i64,.int .i64,.int .i64,.str,.list (.base .val),.list (.base .str),.list (.base .row)]
 | .binding=>[.str,.int .i64,.int .i64,.int .i64,.str,.list (.base .val),.list (.base .str),.list (.base .row)]
 | .cell=>[.int .i64,.int .i64,.int .i64,.str,.str,.int .i64]
 | .edit=>[.int .i64,.int .i64,.int .i64,.int .i64,.int .i64,.str,.str,.int .i64]
 | .tape=>[.int .i64,.int .i64,.list (.base .read)]
 | .notebook=>[.list (.base .cell)]
 | .op=>[.int .i64,.int .i64,.int .i64,.list (.base .int),.int .i64,.int .i64,.int .i64,.int .i64,.int .i64,.str,.str,.int .i64,.str,.str,.int .i64,.int .i64,.list (.base .read)]
 | .document=>[.list (.base .cell),.list (.base .tape),.list (.base .op)]
 | .world=>[.int .i64,.int .i64,.list (.base .file)]
 | .cur=>[.list (.base .u8),.int .i64,.int .i64]
 | .outcome=>[.int .i64,.int .i64,.int .i64,.str,.list (.base .val),.list (.base .str),.list (.base .row),.list (.base .read),.int .i64]
 | .iE=>[.list (.base .read),.int .i64,.int .i64,.list (.base .file),.int .i64,.int .i64,.list (.base .read),.int .i64,.bool]
def Ty.kinds:Ty->List Kd
 | .base b=>b.kinds
 | .list t=>[.list t]
theorem U1{ds:List D}(h:ds.map kd=Base.kinds .origin):∃x,wB ds=some x:=by
 obtain⟨c,d,rfl,a,h⟩:=zH.1 h;obtain⟨e,f,rfl,b,h⟩:=zH.1 h;obtain rfl:=List.map_eq_nil_iff.1 h;obtain⟨g,rfl⟩:=bW a;obtain⟨i,rfl⟩:=bW b;refine Option.isSome_iff_exists.1 ?_;simp[wB,D.cO]
theorem acr{ds:List D}(h:ds.map kd=Base.kinds .row):∃x,NC ds=some x:=by
 obtain⟨c,d,rfl,a,h⟩:=zH.1 h;obtain⟨e,f,rfl,b,h⟩:=zH.1 h;obtain rfl:=List.map_eq_nil_iff.1 h;obtain⟨g,rfl⟩:=eG a;obtain⟨i,rfl⟩:=eG b;refine Option.isSome_iff_exists.1 ?_;simp[NC,D.cO]
theorem acp{ds:List D}(h:ds.map kd=Base.kinds .val):∃x,Nz ds=some x:=by
 obtain⟨i,j,rfl,a,h⟩:=zH.1 h;obtain⟨k,l,rfl,b,h⟩:=zH.1 h;obtain⟨m,n,rfl,c,h⟩:=zH.1 h;obtain⟨o,p,rfl,d,h⟩:=zH.1 h;obtain⟨q,r,rfl,e,h⟩:=zH.1 h;obtain⟨s,t,rfl,f,h⟩:=zH.1 h;obtain⟨u,v,rfl,g,h⟩:=zH.1 h;obtain rfl:=List.map_eq_nil_iff.1 h;obtain⟨w,rfl⟩:=bW a;obtain⟨y,rfl⟩:=bW b;obtain⟨z,rfl⟩:=bW c;obtain⟨A,rfl⟩:=kG d;obtain⟨B,rfl⟩:=eG e;obtain⟨C,rfl⟩:=eG f;obtain⟨E,rfl⟩:=eG g;refine Option.isSome_iff_exists.1 ?_;simp[Nz,D.cO]
theorem Zy{ds:List D}(h:ds.map kd=Base.kinds .expr):∃x,Fh ds=some x:=by
 obtain⟨e,f,rfl,a,h⟩:=zH.1 h;obtain⟨g,i,rfl,b,h⟩:=zH.1 h;obtain⟨j,k,rfl,c,h⟩:=zH.1 h;obtain⟨l,m,rfl,d,h⟩:=zH.1 h;obtain rfl:=List.map_eq_nil_iff.1 h;obtain⟨n,rfl⟩:=bW a;obtain⟨o,rfl⟩:=bW b;obtain⟨p,rfl⟩:=kG c;obtain⟨q,rfl⟩:=eG d;refine Option.isSome_iff_exists.1 ?_;simp[Fh,D.cO]
theorem Zx{ds:List D}(h:ds.map kd=Base.kinds .file):∃x,Fg ds=some x:=by
 obtain⟨c,d,rfl,a,h⟩:=zH.1 h;obtain⟨e,f,rfl,b,h⟩:=zH.1 h;obtain rfl:=List.map_eq_nil_iff.1 h;obtain⟨g,rfl⟩:=kG a;obtain⟨i,rfl⟩:=bW b;refine Option.isSome_iff_exists.1 ?_;simp[Fg,D.cO]
theorem Zv{ds:List D}(h:ds.map kd=Base.kinds .read):∃x,Fb ds=some x:=by
 obtain⟨p,q,rfl,b,h⟩:=zH.1 h;obtain⟨r,s,rfl,c,h⟩:=zH.1 h;obtain⟨t,u,rfl,d,h⟩:=zH.1 h;obtain⟨v,w,rfl,e,h⟩:=zH.1 h;obtain⟨y,z,rfl,f,h⟩:=zH.1 h;obtain⟨A,B,rfl,g,h⟩:=zH.1 h;obtain⟨C,E,rfl,i,h⟩:=zH.1 h;obtain⟨F,G,rfl,j,h⟩:=zH.1 h;obtain⟨H,I,rfl,k,h⟩:=zH.1 h;obtain⟨J,K,rfl,l,h⟩:=zH.1 h;obtain⟨m,n,rfl,a,h⟩:=zH.1 h;obtain rfl:=List.map_eq_nil_iff.1 h;obtain⟨L,rfl⟩:=bW b;obtain⟨M,rfl⟩:=bW c;obtain⟨N,rfl⟩:=bW d;obtain⟨O,rfl⟩:=kG e;obtain⟨P,rfl⟩:=bW f;obtain⟨Q,rfl⟩:=bW g;obtain⟨R,rfl⟩:=bW i;obtain⟨S,rfl⟩:=kG j;obtain⟨T,rfl⟩:=eG k;obtain⟨U,rfl⟩:=eG l;obtain⟨o,rfl⟩:=eG a;refine Option.isSome_iff_exists.1 ?_;simp[Fb,D.cO]
theorem Qp{ds:List D}(h:ds.map kd=Base.kinds .binding):∃x,rZ ds=some x:=by
 obtain⟨j,k,rfl,a,h⟩:=zH.1 h;obtain⟨l,m,rfl,b,h⟩:=zH.1 h;obtain⟨n,o,rfl,c,h⟩:=zH.1 h;obtain⟨p,q,rfl,d,h⟩:=zH.1 h;obtain⟨r,s,rfl,e,h⟩:=zH.1 h;obtain⟨t,u,rfl,f,h⟩:=zH.1 h;obtain⟨v,w,rfl,g,h⟩:=zH.1 h;obtain⟨y,z,rfl,i,h⟩:=zH.1 h;obtain rfl:=List.map_eq_nil_iff.1 h;obtain⟨A,rfl⟩:=kG a;obtain⟨B,rfl⟩:=bW b;obtain⟨C,rfl⟩:=bW c;obtain⟨E,rfl⟩:=bW d;obtain⟨F,rfl⟩:=kG e;obtain⟨G,rfl⟩:=eG f;obtain⟨H,rfl⟩:=eG g;obtain⟨I,rfl⟩:=eG i;refine Option.isSome_iff_exists.1 ?_;simp[rZ,D.cO]
theorem ZA{ds:List D}(h:ds.map kd=Base.kinds .cell):∃x,of_cell ds=some x:=by
 obtain⟨g,i,rfl,a,h⟩:=zH.1 h;obtain⟨j,k,rfl,b,h⟩:=zH.1 h;obtain⟨l,m,rfl,c,h⟩:=zH.1 h;obtain⟨n,o,rfl,d,h⟩:=zH.1 h;obtain⟨p,q,rfl,e,h⟩:=zH.1 h;obtain⟨r,s,rfl,f,h⟩:=zH.1 h;obtain rfl:=List.map_eq_nil_iff.1 h;obtain⟨t,rfl⟩:=bW a;obtain⟨u,rfl⟩:=bW b;obtain⟨v,rfl⟩:=bW c;obtain⟨w,rfl⟩:=kG d;obtain⟨y,rfl⟩:=kG e;obtain⟨z,rfl⟩:=bW f;refine Option.isSome_iff_exists.1 ?_;simp[of_cell,D.cO]
theorem Zz{ds:List D}(h:ds.map kd=Base.kinds .edit):∃x,Fj ds=some x:=by
 obtain⟨j,k,rfl,a,h⟩:=zH.1 h;obtain⟨l,m,rfl,b,h⟩:=zH.1 h;obtain⟨n,o,rfl,c,h⟩:=zH.1 h;obtain⟨p,q,rfl,d,h⟩:=zH.1 h;obtain⟨r,s,rfl,e,h⟩:=zH.1 h;obtain⟨t,u,rfl,f,h⟩:=zH.1 h;obtain⟨v,w,rfl,g,h⟩:=zH.1 h;obtain⟨y,z,rfl,i,h⟩:=zH.1 h;obtain rfl:=List.map_eq_nil_iff.1 h;obtain⟨A,rfl⟩:=bW a;obtain⟨B,rfl⟩:=bW b;obtain⟨C,rfl⟩:=bW c;obtain⟨E,rfl⟩:=bW d;obtain⟨F,rfl⟩:=bW e;obtain⟨G,rfl⟩:=kG f;obtain⟨H,rfl⟩:=kG g;obtain⟨I,rfl⟩:=bW i;refine Option.isSome_iff_exists.1 ?_;simp[Fj,D.cO]
theorem Zu{ds:List D}(h:ds.map kd=Base.kinds .tape):∃x,Fa ds=some x:=by
 obtain⟨d,e,rfl,a,h⟩:=zH.1 h;obtain⟨f,g,rfl,b,h⟩:=zH.1 h;obtain⟨i,j,rfl,c,h⟩:=zH.1 h;obtain rfl:=List.map_eq_nil_iff.1 h;obtain⟨k,rfl⟩:=bW a;obtain⟨l,rfl⟩:=bW b;obtain⟨m,rfl⟩:=eG c;refine Option.isSome_iff_exists.1 ?_;simp[Fa,D.cO]
theorem NT{ds:List D}(h:ds.map kd=Base.kinds .notebook):∃x,pO ds=some x:=by
 obtain⟨b,c,rfl,a,h⟩:=zH.1 h;obtain rfl:=List.map_eq_nil_iff.1 h;obtain⟨d,rfl⟩:=eG a;refine Option.isSome_iff_exists.1 ?_;simp[pO,D.cO]
theorem aeN{ds:List D}(h:ds.map kd=Base.kinds .op):∃x,W9 ds=some x:=by
 obtain⟨P,Q,rfl,i,h⟩:=zH.1 h;obtain⟨R,S,rfl,j,h⟩:=zH.1 h;obtain⟨T,U,rfl,k,h⟩:=zH.1 h;obtain⟨V,W,rfl,l,h⟩:=zH.1 h;obtain⟨X,Y,rfl,m,h⟩:=zH.1 h;obtain⟨Z,r5,rfl,n,h⟩:=zH.1 h;obtain⟨d6,r6,rfl,o,h⟩:=zH.1 h;obtain⟨d7,r7,rfl,p,h⟩:=zH.1 h;obtain⟨d8,r8,rfl,q,h⟩:=zH.1 h;obtain⟨d9,r9,rfl,r,h⟩:=zH.1 h;obtain⟨s,t,rfl,a,h⟩:=zH.1 h;obtain⟨u,v,rfl,b,h⟩:=zH.1 h;obtain⟨w,y,rfl,c,h⟩:=zH.1 h;obtain⟨z,A,rfl,d,h⟩:=zH.1 h;obtain⟨B,C,rfl,e,h⟩:=zH.1 h;obtain⟨E,F,rfl,f,h⟩:=zH.1 h;obtain⟨G,H,rfl,g,h⟩:=zH.1 h;obtain rfl:=List.map_eq_nil_iff.1 h;obtain⟨x0,rfl⟩:=bW i;obtain⟨x1,rfl⟩:=bW j;obtain⟨x2,rfl⟩:=bW k;obtain⟨x3,rfl⟩:=eG l;obtain⟨x4,rfl⟩:=bW m;obtain⟨x5,rfl⟩:=bW n;obtain⟨x6,rfl⟩:=bW o;obtain⟨x7,rfl⟩:=bW p;obtain⟨x8,rfl⟩:=bW q;obtain⟨x9,rfl⟩:=kG r;obtain⟨I,rfl⟩:=kG a;obtain⟨J,rfl⟩:=bW b;obtain⟨K,rfl⟩:=kG c;obtain⟨L,rfl⟩:=kG d;obtain⟨M,rfl⟩:=bW e;obtain⟨N,rfl⟩:=bW f;obtain⟨O,rfl⟩:=eG g;refine Option.isSome_iff_exists.1 ?_;simp[W9,D.cO]
theorem NU{ds:List D}(h:ds.map kd=Base.kinds .document):∃x,pR ds=some x:=by
 obtain⟨d,e,rfl,a,h⟩:=zH.1 h;obtain⟨f,g,rfl,b,h⟩:=zH.1 h;obtain⟨i,j,rfl,c,h⟩:=zH.1 h;obtain rfl:=List.map_eq_nil_iff.1 h;obtain⟨k,rfl⟩:=eG a;obtain⟨l,rfl⟩:=eG b;obtain⟨m,rfl⟩:=eG c;refine Option.isSome_iff_exists.1 ?_;simp[pR,D.cO]
theorem Xl{ds:List D}(h:ds.map kd=Base.kinds .world):∃x,Aa ds=some x:=by
 obtain⟨d,e,rfl,a,h⟩:=zH.1 h;obtain⟨f,g,rfl,b,h⟩:=zH.1 h;obtain⟨i,j,rfl,c,h⟩:=zH.1 h;obtain rfl:=List.map_eq_nil_iff.1 h;obtain⟨k,rfl⟩:=bW a;obtain⟨l,rfl⟩:=bW b;obtain⟨m,rfl⟩:=eG c;refine Option.isSome_iff_exists.1 ?_;simp[Aa,D.cO]
theorem acs{ds:List D}(h:ds.map kd=Base.kinds .cur):∃x,NE ds=some x:=by
 obtain⟨d,e,rfl,a,h⟩:=zH.1 h;obtain⟨f,g,rfl,b,h⟩:=zH.1 h;obtain⟨i,j,rfl,c,h⟩:=zH.1 h;obtain rfl:=List.map_eq_nil_iff.1 h;obtain⟨k,rfl⟩:=eG a;obtain⟨l,rfl⟩:=bW b;obtain⟨m,rfl⟩:=bW c;refine Option.isSome_iff_exists.1 ?_;simp[NE,D.cO]
theorem Qo{ds:List D}(h:ds.map kd=Base.kinds .outcome):∃x,rY ds=some x:=by
 obtain⟨k,l,rfl,a,h⟩:=zH.1 h;obtain⟨m,n,rfl,b,h⟩:=zH.1 h;obtain⟨o,p,rfl,c,h⟩:=zH.1 h;obtain⟨q,r,rfl,d,h⟩:=zH.1 h;obtain⟨s,t,rfl,e,h⟩:=zH.1 h;obtain⟨u,v,rfl,f,h⟩:=zH.1 h;obtain⟨w,y,rfl,g,h⟩:=zH.1 h;obtain⟨z,A,rfl,i,h⟩:=zH.1 h;obtain⟨B,C,rfl,j,h⟩:=zH.1 h;obtain rfl:=List.map_eq_nil_iff.1 h;obtain⟨E,rfl⟩:=bW a;obtain⟨F,rfl⟩:=bW b;obtain⟨G,rfl⟩:=bW c;obtain⟨H,rfl⟩:=kG d;obtain⟨I,rfl⟩:=eG e;obtain⟨J,rfl⟩:=eG f;obtain⟨K,rfl⟩:=eG g;obtain⟨L,rfl⟩:=eG i;obtain⟨M,rfl⟩:=bW j;refine Option.isSome_iff_exists.1 ?_;simp[rY,D.cO]
theorem Zw{ds:List D}(h:ds.map kd=Base.kinds .iE):∃x,Ff ds=some x:=by
 obtain⟨k,l,rfl,a,h⟩:=zH.1 h;obtain⟨m,n,rfl,b,h⟩:=zH.1 h;obtain⟨o,p,rfl,c,h⟩:=zH.1 h;obtain⟨q,r,rfl,d,h⟩:=zH.1 h;obtain⟨s,t,rfl,e,h⟩:=zH.1 h;obtain⟨u,v,rfl,f,h⟩:=zH.1 h;obtain⟨w,y,rfl,g,h⟩:=zH.1 h;obtain⟨z,A,rfl,i,h⟩:=zH.1 h;obtain⟨B,C,rfl,j,h⟩:=zH.1 h;obtain rfl:=List.map_eq_nil_iff.1 h;obtain⟨E,rfl⟩:=eG a;obtain⟨F,rfl⟩:=bW b;obtain⟨G,rfl⟩:=bW c;obtain⟨H,rfl⟩:=eG d;obtain⟨I,rfl⟩:=bW e;obtain⟨J,rfl⟩:=bW f;obtain⟨K,rfl⟩:=eG g;obtain⟨L,rfl⟩:=bW i;obtain⟨M,rfl⟩:=aaQ j;refine Option.isSome_iff_exists.1 ?_;simp[Ff,D.cO]
theorem CP{t:Ty}{ds:List D}(h:ds.map kd=t.kinds):∃x,t.iw ds=some x:=by
 cases t with
 | list t=>
  obtain⟨d,r,rfl,a,h⟩:=zH.1 h;obtain rfl:=List.map_eq_nil_iff.1 h;obtain⟨xs,rfl⟩:=eG a;exact⟨xs,by simp[Ty.iw,D.cO]⟩
 | base b=>
  cases b
  case int=>
   obtain⟨d,r,rfl,a,h⟩:=zH.1 h
   obtain rfl:=List.map_eq_nil_iff.1 h
   obtain⟨n,rfl⟩:=bW a
   exact⟨n,rfl⟩
  case u8=>
   obtain⟨d,r,rfl,a,h⟩:=zH.1 h
   obtain rfl:=List.map_eq_nil_iff.1 h
   obtain⟨n,rfl⟩:=bW a
   exact⟨n,rfl⟩
  case bool=>
   obtain⟨d,r,rfl,a,h⟩:=zH.1 h
   obtain rfl:=List.map_eq_nil_iff.1 h
   obtain⟨n,rfl⟩:=aaQ a
   exact⟨n,rfl⟩
  case str=>
   obtain⟨d,r,rfl,a,h⟩:=zH.1 h
   obtain rfl:=List.map_eq_nil_iff.1 h
   obtain⟨n,rfl⟩:=kG a
   exact⟨n,rfl⟩
  case origin=>exact U1 h
  case row=>exact acr h
  case val=>exact acp h
  case expr=>exact Zy h
  case file=>exact Zx h
  case read=>exact Zv h
  case binding=>exact Qp h
  case cell=>exact ZA h
  case edit=>exact Zz h
  case tape=>exact Zu h
  case notebook=>exact NT h
  case op=>exact aeN h
  case document=>exact NU h
  case world=>exact Xl h
  case cur=>exact acs h
  case outcome=>exact Qo h
  case iE=>exact Zw h
