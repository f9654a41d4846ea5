import Derived.Test.YtkebfkahdmddpaaGreatDoorComp1
import Derived.Test.YtkebfkahdmddpaaGreatDoorLink1
import Derived.Test.YtkebfkahdmddpaaGreatDoorS4
import Derived.Test.YtkebfkahdmddpaaGreatDoorPlain1
set_option linter.unusedSimpArgs false
set_option linter.unusedVariables false
/- Plain laws: names, cells and notebooks that are valid; both sides alike. Plain laws: valid cells, notebooks and histories; both sides alike. -/
namespace Go.Proofs.YtkebfkahdmddpaaGreatDoor
open Go.Abs Go.Proofs
def okc(c:UInt8)(i:Nat):Bool:=(decide ((c.toNat:Int)>=97)&&decide ((c.toNat:Int)<=122))||(!((i:Int)==0)&&decide ((c.toNat:Int)>=48)&&decide ((c.toNat:Int)<=57))
theorem VU(a:Str)(h:a.length<lim):zK a=some (O5 okc a 0&&decide ((a.length:Int)>0)):=by
 refine adi (fun i=>((a,(i:Int)):Str×Int)) a _ _ (fun i x c=>?_) ?_
 ·obtain⟨b,rfl⟩:=zC.1 c;simp only[BG b,ac,au,c,zA,Ey b h,okc];cases decide ((a[i].toNat:Int)>=97)<;>cases decide ((a[i].toNat:Int)<=122)<;>cases decide ((a[i].toNat:Int)>=48)<;>cases decide ((a[i].toNat:Int)<=57)<;>cases ((i:Int)==0)<;>rfl
 ·simp only[iJ,aa]
def agn:List Str->Str->Bool
 | [],_=>false
 | x::r,a=>x==a||agn r a
theorem abu(xs:List Str)(a:Str)(h:xs.length<lim):lU xs a=some (agn xs a):=by
 have key:∀(n i:Nat),xs.length=i+n->ak (fun (c:(List Str)×Str×Int)=>
  bif (decide (c.2.2<(c.1.length:Int)))then
   (idx c.1 c.2.2).bind fun d=>
   bif (d==c.2.1)then
    some (.inr (true))
   else
    some (.inl (c.1,c.2.1,w64 (c.2.2+1)))
  else
   some (.inr (false))) (xs,a,(i:Int))=some (agn (xs.drop i) a):=by
  intro n
  induction n with
  | zero=>
   intro i hi
   have:i=xs.length:=by omega
   subst this
   rw[aJ]
   simp only[iJ,aa,List.drop_length]
   rfl
  | succ n ih=>
   intro i hi
   have b:i<xs.length:=by omega
   rw[List.drop_eq_getElem_cons b,aJ]
   simp only[BG b,ac,au,zF b,zA,Ey b h,agn]
   cases xs[i]==a with
   | true=>rfl
   | false=>exact ih (i+1) (by omega)
 exact key xs.length 0 (by omega)
theorem PW(a:aC)(b:Int)(h:a.cells.length<lim):ng a b=some (kP (fun c=>c.id==b) a.cells 0):=by
 refine LK (fun i=>((b,a.cells,(i:Int)):Int×List aj×Int)) a.cells (fun c=>c.id==b) (fun i x e=>?_) ?_
 ·obtain⟨d,rfl⟩:=zC.1 e;simp only[BG d,ac,au,e,zA,Ey d h]
 ·simp only[iJ,aa]
theorem Qy(a:aC)(b:Int)(h:a.cells.length<lim):nG a b=some (kP (fun c=>c.id==b) a.cells 0):=by
 refine LK (fun i=>((b,a.cells,(a.cells.length:Int),(i:Int)):Int×List aj×Int×Int)) a.cells (fun c=>c.id==b) (fun i x e=>?_) ?_
 ·obtain⟨d,rfl⟩:=zC.1 e;simp only[BG d,ac,au,e,zA,Ey d h]
 ·simp only[iJ,aa]
open Classical in
noncomputable def ajy(c:aj):Bool:=(dL c).getD false
end Go.Proofs.YtkebfkahdmddpaaGreatDoor
/- Plain laws: a renaming keeps a notebook's cells valid. -/
namespace Go.Proofs.YtkebfkahdmddpaaGreatDoor
open Go.Abs Go.Proofs
theorem JQ{α:Type}(p:α->Bool):∀(i:Nat) (xs:List α),fK (fun _ x=>p x) i xs=xs.all p
 | _,[]=>rfl
 | i,x::r=>by
  show (p x&&fK (fun _ x=>p x) (i+1) r)=(p x&&r.all p)
  rw[JQ p (i+1) r]
theorem Uy(a:Str)(h:a.length<=1048576):gm a=some (prn a&&decide ((a.length:Int)<=120)):=by
 unfold gm;refine (oD (fun i=>((a,(i:Int)):Str×Int)) a (fun _ c=>prC c) false (decide ((a.length:Int)<=120)) (fun i c b=>?_) ?_).trans ?_
 ·simp only[bW b,ac,au,b,zA,bT b (by omega)];have e:prC c=(!(decide ((c.toNat:Int)<32))&&!(decide ((c.toNat:Int)>126))):=by
   unfold prC;by_cases d:32<=c.toNat<;>by_cases f:c.toNat<=126<;>simp[d,f]<;>omega
  rw[e];cases decide ((c.toNat:Int)<32)<;>cases decide ((c.toNat:Int)>126)<;>rfl
 ·simp only[bG,aa]
 ·rw[JQ];unfold prn;cases a.all prC<;>rfl
theorem Ux{t:Str}(h:prn t=true)(a:t.length<=120):gm t=some true:=by
 rw[Uy t (by omega),h,al (by omega)];rfl
theorem X4{c:aj}(h:kJ c)(hv:bY c=some true):gm c.code=some true/\(c.kind≠1->aT c.name=some true):=by
 obtain⟨v,b,_,_⟩:=FH c.code h.code;obtain⟨u,d⟩:=lC c.name (by have:=h.name;omega);unfold bY at hv;simp only[pF,b,d,zA]at hv;rw[b,d];cases a:(decide (1<=c.id)&&decide (c.id<=999))with
 | false=>rw[a]at hv;cases hv
 | true=>
 cases e:(decide (1<=c.version)&&decide (c.version<=999))with
 | false=>rw[a,e]at hv;cases hv
 | true=>
 rw[a,e]at hv;cases v with
 | false=>cases hv
 | true=>
  refine⟨rfl,fun f=>?_⟩;cases u with
  | true=>rfl
  | false=>
   have g:(c.kind==1)=false:=by simpa using f
   rw[g]at hv;simp only[aM,aa]at hv;revert hv;cases (c.kind==2)<;>cases (c.kind==3)<;>cases (c.kind==4)<;>intro hv<;>cases hv
theorem acH{c:aj}{nm:Str}(a:c.kind≠1)(b:aT c.name=some true)(d:aT nm=some true):bY ⟨c.id,c.version,c.kind,nm,c.code,c.n⟩=bY c:=by
 have e:(c.kind==1)=false:=by simpa using a
 unfold bY;simp only[e,b,d];rfl
theorem acI{c:aj}{t:Str}(a:c.kind=2)(b:gm c.code=some true)(d:gm t=some true):bY ⟨c.id,c.version,c.kind,c.name,t,c.n⟩=bY c:=by
 unfold bY;simp only[a,b,d];rfl
theorem ae2{c:aj}{V:Int}(a:1<=c.version/\c.version<=999)(b:1<=V/\V<=999):bY ⟨c.id,V,c.kind,c.name,c.code,c.n⟩=bY c:=by
 unfold bY;simp only[pF,al a.1,al a.2,al b.1,al b.2]
theorem yE{c:aj}(h:kJ c):cellV c=true↔bY c=some true:=by
 rw[Vo c h];simp
structure Vl(cs out:List aj):Prop where
 ids:out.map (·.id)=cs.map (·.id)
 kinds:out.map (·.kind)=cs.map (·.kind)
 val:∀x,x∈out->kJ x/\cellV x=true
theorem Vl.len{cs out:List aj}(h:Vl cs out):out.length=cs.length:=by
 have:=congrArg List.length h.ids;simpa using this
theorem FT{α β:Type}(f:α->β){xs:List α}{i:Nat}{x y:α}(h:xs[i]?=some x)(e:f y=f x):(xs.set i y).map f=xs.map f:=by
 rw[List.map_set,e];have:(xs.map f)[i]?=some (f x):=by rw[List.getElem?_map,h];rfl
 obtain⟨a,b⟩:=zC.1 this;rw[<- b];exact List.set_getElem_self a
theorem Vl.set{cs out:List aj}(h:Vl cs out){i:Nat}{x y:aj}(b:out[i]?=some x)(c:y.id=x.id)(d:y.kind=x.kind)(e:kJ y/\cellV y=true):Vl cs (out.set i y) where
 ids:=by rw[FT (·.id) b c];exact h.ids
 kinds:=by rw[FT (·.kind) b d];exact h.kinds
 val:=fun z a=>by
  rcases List.mem_or_eq_of_mem_set a with a | rfl
  ·exact h.val z a
  ·exact e
theorem Vl.kind{cs out:List aj}(h:Vl cs out){i:Nat}{x:aj}(a:out[i]?=some x):∃y,cs[i]?=some y/\y.kind=x.kind:=by
 have hi:=(zC.1 a).1;obtain⟨y,b⟩:∃y,cs[i]?=some y:=⟨_,zF (by have:=h.len;omega)⟩;have e:=congrArg (fun l=>l[i]?) h.kinds;simp only[List.getElem?_map,a,b,Option.map_some,zD]at e;exact⟨y,b,e.symm⟩
theorem af2{cs:List aj}{b c:Str}{k:Nat}{x:aj}(j:Vl cs cs)(f:cs[k]?=some x)(l:x.kind≠1)(m:bZ c=true)(g:c.length<=1048576):Vl cs (oH c cs k):=by
 have e:oH c cs k=cs.set k ⟨x.id,x.version,x.kind,c,x.code,x.n⟩:=by unfold oH;rw[f]
 rw[e];obtain⟨h,hv⟩:=j.val x (zG f);have a:=(yE h).1 hv;have i:aT c=some true:=by rw[(vz c (by omega)).1,m]
 have d:kJ ⟨x.id,x.version,x.kind,c,x.code,x.n⟩:=⟨g,h.code⟩;exact j.set f rfl rfl ⟨d,(yE d).2 ((acH l ((X4 h a).2 l) i).trans a)⟩
theorem loop_full(d:Bool)(b c:Str):∀(ps:List aO) (i:Nat) (out:List aj) (full:Bool) (r:List aj×Bool),lN d b c i ps out full=some r->full=true->r.2=true
 | [],i,out,full,r,h,a=>by cases h;exact a
 | p::ps,i,out,full,r,h,a=>by
  unfold lN at h;split at h
  ·split at h
   ·split at h
    ·exact loop_full d b c ps (i+1) _ _ r h (by rw[a];rfl)
    ·cases h
   ·cases h
  ·exact loop_full d b c ps (i+1) _ _ r h a
theorem UL{cs:List aj}{b c:Str}{d:Bool}(t:b.length<=34359738368)(u:c.length<=34359738368):∀(ps:List aO) (i:Nat) (out:List aj) (full:Bool) (r:List aj×Bool),(∀p,p∈ps->lu p)->(∀(j:Nat) (p:aO) (y:aj),ps[j]?=some p->cs[i+j]?=some y->p.kind=2->y.kind=2)->Vl cs out->lN d b c i ps out full=some r->r.2=false->Vl cs r.1
 | [],i,out,full,r,_,_,e,h,_=>by cases h;exact e
 | p::ps,i,out,full,r,D,E,e,h,o=>by
  have f:∀(j:Nat) (q:aO) (y:aj),ps[j]?=some q->cs[i+1+j]?=some y->q.kind=2->y.kind=2:=fun j q y G v=>E (j+1) q y (by simpa using G) (by rw[<- v];congr 1;omega)
  have g:∀q,q∈ps->lu q:=fun q w=>D q (aq _ w)
  unfold lN at h;split at h
  ·rename_i hh;split at h
   ·rename_i H;split at h
    ·rename_i x z;have k:(full||(d&&decide (x.version>=999)))=false:=by
      cases w:(full||(d&&decide (x.version>=999)))with
      | false=>rfl
      | true=>rw[loop_full d b c ps (i+1) _ _ r h w]at o;cases o
     refine UL t u ps (i+1) _ _ r g f ?_ h o;have A:=D p aw;have F:=Au p b hh;obtain⟨_,_,_,_,_,_,B⟩:=TJ p A F b c t u;obtain⟨y,v,C⟩:=e.kind z;have xk:x.kind=2:=by rw[<- C];exact E 0 p y rfl v F
     obtain⟨s,hv⟩:=e.val x (zG z);have l:=(yE s).1 hv;have m:kJ (TD d (textOf p b c) x):=⟨s.name,by show (textOf p b c).length<=1048576;omega⟩;have a:=aaZ x s hv;have hver:1<=(TD d (textOf p b c) x).version/\(TD d (textOf p b c) x).version<=999:=by
      show 1<=(if d=true then x.version+1 else x.version)/\(if d=true then x.version+1 else x.version)<=999
      have:=a.v0;have:=a.v9;split
      ·rename_i I;rw[I]at k;simp at k;omega
      ·omega
     have J:=(acI xk (X4 s l).1 (Ux B H)).trans l;have K:=ae2 (c:=⟨x.id,x.version,x.kind,x.name,textOf p b c,x.n⟩) ⟨a.v0,a.v9⟩ hver;exact e.set z rfl rfl ⟨m,(yE m).2 (K.trans J)⟩
    ·cases h
   ·cases h
  ·exact UL t u ps (i+1) out full r g f e h o
theorem abG{l:List Int}{k:Nat}(h:nN l=(k:Int)):(k:Int)∈l:=by
 match l,h with
 | [],h=>exact absurd h (by show ¬(-1:Int)=_;omega)
 | [a],h=>have h:a=(k:Int):=h;rw[h];simp
 | _::_::_,h=>exact absurd h (by show ¬(-2:Int)=_;omega)
theorem SG(b:Str):∀(ps:List aO) (i k:Nat),(k:Int)∈bP b i ps->∃p,ps[k-i]?=some p/\i<=k/\p.kind≠1
 | [],i,k,h=>by cases h
 | p::r,i,k,h=>by
  unfold bP at h;have next:(k:Int)∈bP b (i+1) r->∃q,(p::r)[k-i]?=some q/\i<=k/\q.kind≠1:=fun h=>by
   obtain⟨q,c,e,d⟩:=SG b r (i+1) k h;refine⟨q,?_,by omega,d⟩;rw[show k-i=(k-(i+1))+1 by omega];simpa using c
  split at h
  ·rename_i a;rcases bc.1 h with h | h
   ·have:k=i:=by omega
    subst this;rw[zI]at a;exact⟨p,by simp,az _,by simpa using a.1⟩
   ·exact next h
  ·exact next h
theorem BA(cs:List aj)(a:cs.length<=1048576)(h:∀c,c∈cs->kJ c):∀(i:Nat) (p:aO) (c:aj),(partsOf cs)[i]?=some p->cs[i]?=some c->dh c=some p/\(p.kind=2->c.kind=2)/\(c.kind=1->p.kind=1):=by
 obtain⟨ps,_,b,_,_,_,d⟩:=AQ cs a h;have e:partsOf cs=ps:=by unfold partsOf;rw[b];rfl
 rw[e];exact d
structure acP(cs:List aj)(b c:Str)(d:Bool)(out:List aj)(k:Nat):Prop where
 bk:oC cs=true
 vb:bZ b=true
 vc:bZ c=true
 ne:b≠c
 res:nN (bP b 0 (partsOf cs))=(k:Int)
 kl:k<(partsOf cs).length
 nd:bP c 0 (partsOf cs)=[]
 nu:∀p,p∈partsOf cs->tX p c=false
 nc:∀p,p∈partsOf cs->p.kind=2->Ku p b c=false
 lp:lN d b c 0 (partsOf cs) (oH c cs k) false=some (out,false)
 eq:(tN cs b c d).1=⟨out⟩
theorem afK{cs:List aj}{b c:Str}{d:Bool}(e:(tN cs b c d).2=0):∃out k,acP cs b c d out k:=by
 have t:tN cs b c d=tN cs b c d:=rfl;revert e;generalize a:tN cs b c d=R;have m:=a;unfold tN at a;intro e;cases f:oC cs with
 | false=>rw[f]at a;rw[<- a]at e;exact absurd (show (1:Int)=0 from e) (by omega)
 | true=>
 cases g:bZ b with
 | false=>rw[f,g]at a;rw[<- a]at e;exact absurd (show (1:Int)=0 from e) (by omega)
 | true=>
 cases i:bZ c with
 | false=>rw[f,g,i]at a;rw[<- a]at e;exact absurd (show (1:Int)=0 from e) (by omega)
 | true=>
 cases j:(b==c)with
 | true=>rw[f,g,i,j]at a;rw[<- a]at e;exact absurd (show (1:Int)=0 from e) (by omega)
 | false=>
 rw[f,g,i,j]at a;simp only[aM,aa]at a;cases hneg:decide (nN (bP b 0 (partsOf cs))<0)with
 | true=>rw[hneg]at a;rw[<- a]at e;exact absurd (show (2:Int)=0 from e) (by omega)
 | false=>
 rw[hneg]at a;simp only[aa]at a;cases h:(decide (((bP c 0 (partsOf cs)).length:Int)>0)||(partsOf cs).any (y7 c))with
 | true=>rw[h]at a;rw[<- a]at e;exact absurd (show (3:Int)=0 from e) (by omega)
 | false=>
 rw[h]at a;simp only[aa]at a;cases l:(partsOf cs).any (wR b c)with
 | true=>rw[l]at a;rw[<- a]at e;exact absurd (show (4:Int)=0 from e) (by omega)
 | false=>
 rw[l]at a;simp only[aa]at a;obtain⟨k,s,n⟩:=Y5 (partsOf cs) b (by have:=of_decide_eq_false hneg;omega);rw[s,aD]at a;rw[Bool.or_eq_false_iff]at h;cases o:lN d b c 0 (partsOf cs) (oH c cs k) false with
 | none=>rw[o]at a;rw[<- a]at e;exact absurd (show (5:Int)=0 from e) (by omega)
 | some r=>
  rw[o]at a;obtain⟨out,full⟩:=r;cases full with
  | true=>rw[<- a]at e;exact absurd (show (6:Int)=0 from e) (by omega)
  | false=>
   refine⟨out,k,f,g,i,by simpa using j,s,n,?_,fun p q=>?_,fun p q u=>?_,o,by rw[m,<- a];rfl⟩
   ·have:=of_decide_eq_false h.1;exact List.length_eq_zero_iff.1 (by omega)
   ·have:=List.any_eq_false.1 h.2 p q;unfold y7 at this;simpa using this
   ·have:=List.any_eq_false.1 l p q;unfold wR at this;rw[u]at this;simpa using this
theorem acP.cell{cs:List aj}{b c:Str}{d:Bool}{out:List aj}{k:Nat}(h:acP cs b c d out k)(f:cs.length<=1048576)(g:∀c,c∈cs->kJ c):∃x,cs[k]?=some x/\x.kind≠1:=by
 obtain⟨_,_,_,l,_⟩:=qx cs f g;have hlen:=l h.bk;have m:=h.kl;obtain⟨q,i,_,a⟩:=SG b (partsOf cs) 0 k (abG h.res);rw[Nat.sub_zero]at i;obtain⟨x,j⟩:∃x,cs[k]?=some x:=⟨_,zF (by omega)⟩;exact⟨x,j,fun e=>a ((BA cs f g k q x i j).2.2 e)⟩
theorem acP.vl{cs:List aj}{b c:Str}{d:Bool}{out:List aj}{k:Nat}(h:acP cs b c d out k)(f:cs.length<=1048576)(a:∀c,c∈cs->kJ c)(s:b.length<=1048576)(l:c.length<=1048576):Vl cs out:=by
 obtain⟨_,_,m,_,_⟩:=qx cs f a;obtain⟨_,g⟩:=tC a h.bk;have n:Vl cs cs:=⟨rfl,rfl,fun x e=>⟨a x e,(g x e).1⟩⟩;obtain⟨x,e,i⟩:=h.cell f a;have o:=af2 (b:=b) n e i h.vc l;exact UL (cs:=cs) (by omega) (by omega) (partsOf cs) 0 _ _ (out,false) m (fun j p y q r=>(BA cs f a j p y q (by simpa using r)).2.1) o h.lp rfl
end Go.Proofs.YtkebfkahdmddpaaGreatDoor
/- Sets of numbers as ascending lists; what can be reached. -/
namespace Go.Abs
theorem afh(out:List Int)(n x:Int):x∈addN out n↔x∈out\/x=n:=by
 unfold addN;split
 ·rename_i h;have:n∈out:=by simpa using h
  constructor
  ·exact .inl
  ·rintro (h | rfl)
   ·exact h
   ·exact this
 ·simp
theorem ZU{out:List Int}(h:out.Nodup)(n:Int):(addN out n).Nodup:=by
 unfold addN;split
 ·exact h
 ·rename_i c;have c:n∉out:=by simpa using c
  rw[List.nodup_append];exact⟨h,by simp,fun a d b f=>by rw[List.mem_singleton.1 f];exact fun e=>c (e▸d)⟩
theorem RZ:∀(xs out:List Int) (x:Int),x∈xs.foldl addN out↔x∈out\/x∈xs
 | [],out,x=>by simp
 | y::r,out,x=>by
  rw[List.foldl_cons,RZ r,afh,bc,or_assoc]
theorem JI:∀(xs:List Int) {out:List Int},out.Nodup->(xs.foldl addN out).Nodup
 | [],_,h=>h
 | y::r,_,h=>JI r (ZU h y)
theorem Si:∀(xs out:List Int),(xs.foldl addN out).length<=out.length+xs.length
 | [],out=>by simp
 | y::r,out=>by
  have a:=Si r (addN out y);have b:(addN out y).length<=out.length+1:=by unfold addN;split<;>simp
  simp only[List.foldl_cons,List.length_cons];omega
theorem LJ(xs:List Int)(x:Int):x∈JW xs↔x∈xs:=by
 unfold JW;rw[List.mem_mergeSort];unfold aeV;rw[RZ];simp
theorem adf(xs:List Int):(JW xs).length<=xs.length:=by
 unfold JW;rw[List.length_mergeSort];have:=Si xs [];unfold aeV;simpa using this
theorem zq(xs:List Int):(JW xs).Pairwise (· < ·):=by
 have d:(JW xs).Pairwise (fun x y=>decide (x<=y)=true):=List.pairwise_mergeSort (fun a b c d e=>by simp only[decide_eq_true_eq]at *;omega) (fun a b=>by simp;omega) _;have e:(JW xs).Nodup:=by
  unfold JW;exact (List.mergeSort_perm _ _).nodup_iff.2 (JI xs .nil)
 refine (d.and e).imp fun {a b} h=>?_
 have:=h.1;simp only[decide_eq_true_eq]at this;have:=h.2;omega
theorem Zk:∀ {s t:List Int},s.Pairwise (· < ·)->t.Pairwise (· < ·)->(∀x,x∈s↔x∈t)->s=t
 | [],[],_,_,_=>rfl
 | [],y::t,_,_,h=>by have:=(h y).2 (by simp);cases this
 | x::s,[],_,_,h=>by have:=(h x).1 (by simp);cases this
 | x::s,y::t,f,g,h=>by
  obtain⟨c,i⟩:=List.pairwise_cons.1 f;obtain⟨d,j⟩:=List.pairwise_cons.1 g;have e:x=y:=by
   rcases bc.1 ((h x).1 (by simp))with e | k
   ·exact e
   rcases bc.1 ((h y).2 (by simp))with e | l
   ·exact e.symm
   have:=d x k;have:=c y l;omega
  subst e;rw[Zk i j fun z=>?_];constructor
  ·intro b;rcases bc.1 ((h z).1 (aq _ b))with e | a
   ·have:=c z b;omega
   ·exact a
  ·intro b;rcases bc.1 ((h z).2 (aq _ b))with e | a
   ·have:=d z b;omega
   ·exact a
def H8(n:Int):List Int->List Int
 | []=>[n]
 | x::r=>if x<n then x::H8 n r else n::x::r
theorem Uw(n:Int):∀(s:List Int) (j:Nat),j<=s.length->(∀x,x∈s.take j->x<n)->(∀x,s[j]?=some x->¬x<n)->s.take j++[n]++s.drop j=H8 n s
 | [],0,_,_,_=>rfl
 | [],j+1,h,_,_=>by simp at h
 | x::r,0,_,_,h=>by
  have:=h x rfl;simp[H8,this]
 | x::r,j+1,c,b,d=>by
  have e:=b x (by simp);have ih:=Uw n r j (by simpa using c) (fun y a=>b y (by simp[a])) fun y a=>d y (by simpa using a)
  simp only[List.take_succ_cons,List.drop_succ_cons,List.cons_append,H8,if_pos e,ih]
theorem Nk(n x:Int):∀s:List Int,x∈H8 n s↔x=n\/x∈s
 | []=>by simp[H8]
 | y::r=>by
  unfold H8;split
  ·rw[bc,Nk n x r,bc];constructor
   ·rintro (h | h | h)<;>simp[h]
   ·rintro (h | h | h)<;>simp[h]
  ·simp
theorem Js(n:Int):∀s:List Int,s.Pairwise (· < ·)->n∉s->(H8 n s).Pairwise (· < ·)
 | [],_,_=>List.pairwise_singleton _ _
 | y::r,h,c=>by
  obtain⟨d,f⟩:=List.pairwise_cons.1 h;have i:n≠y:=fun e=>c (by simp[e])
  have g:n∉r:=fun e=>c (by simp[e])
  unfold H8;split
  ·rename_i b;refine List.pairwise_cons.2 ⟨fun z a=>?_,Js n r f g⟩;rcases (Nk n z r).1 a with rfl | a
   ·exact b
   ·exact d z a
  ·refine List.pairwise_cons.2 ⟨fun z a=>?_,h⟩;rcases bc.1 a with rfl | a
   ·omega
   ·have:=d z a;omega
def Qg(out:List Int)(n:Int):List Int:=if out.contains n=true then out else H8 n out
theorem aev(out:List Int)(n x:Int):x∈Qg out n↔x∈out\/x=n:=by
 unfold Qg;split
 ·rename_i h;have:n∈out:=by simpa using h
  constructor
  ·exact .inl
  ·rintro (h | rfl)
   ·exact h
   ·exact this
 ·rw[Nk];exact or_comm
theorem Xj{out:List Int}(h:out.Pairwise (· < ·))(n:Int):(Qg out n).Pairwise (· < ·):=by
 unfold Qg;split
 ·exact h
 ·rename_i a;exact Js n out h (by simpa using a)
theorem RY:∀(xs out:List Int) (x:Int),x∈xs.foldl Qg out↔x∈out\/x∈xs
 | [],out,x=>by simp
 | y::r,out,x=>by
  rw[List.foldl_cons,RY r,aev,bc,or_assoc]
theorem Gs:∀(xs:List Int) {out:List Int},out.Pairwise (· < ·)->(xs.foldl Qg out).Pairwise (· < ·)
 | [],_,h=>h
 | y::r,_,h=>Gs r (Xj h y)
theorem afw(xs:List Int):xs.foldl Qg []=JW xs:=
 Zk (Gs xs .nil) (zq xs) fun x=>by rw[RY,LJ];simp
inductive Rch(D:Int->List Int)(i:Int):Int->Prop
 | one {k:Int}:k∈D i->Rch D i k
 | more {j k:Int}:Rch D i j->k∈D j->Rch D i k
structure GOk(D:Int->List Int)(n:Nat):Prop where
 rng:∀i k,k∈D i->0<=k/\k<(n:Int)
 srt:∀i,(D i).Pairwise (· < ·)
theorem VD:∀ {l U:List Int},l.Nodup->(∀x,x∈l->x∈U)->l.length<=U.length
 | [],U,_,_=>by simp
 | x::r,U,d,b=>by
  have a:=List.nodup_cons.1 d;obtain⟨s,t,e⟩:=List.append_of_mem (b x (by simp));subst e;have:=VD (l:=r) (U:=s++t) a.2 fun z c=>by
   have h:=b z (by simp[c]);rw[List.mem_append,bc]at h;rcases h with h | rfl | h
   ·exact List.mem_append_left _ h
   ·exact absurd c a.1
   ·exact List.mem_append_right _ h
  simp only[a7,List.length_cons]at this ⊢;omega
theorem afJ{l:List Int}{n:Nat}(a:l.Nodup)(b:∀x,x∈l->0<=x/\x<(n:Int)):l.length<=n:=by
 have:=VD (U:=(List.range n).map fun k:Nat=>(k:Int)) a fun x c=>by
  obtain⟨d,e⟩:=b x c;exact List.mem_map.2 ⟨x.toNat,List.mem_range.2 (by omega),by omega⟩
 simpa using this
theorem aed{l:List Int}(h:l.Pairwise (· < ·)):l.Nodup:=h.imp fun h e=>by omega
theorem GOk.len{D:Int->List Int}{n:Nat}(h:GOk D n)(i:Int):(D i).length<=n:=afJ (aed (h.srt i)) (h.rng i)
end Go.Abs
/- What is reached, by a list of what is still to do. -/
namespace Go.Abs
structure ReachI(D:Int->List Int)(n:Nat)(i:Int)(x:List Int×List Int):Prop where
 nd:x.1.Nodup
 rng:∀k,k∈x.1\/k∈x.2->0<=k/\k<(n:Int)
 sub:∀k,k∈x.1\/k∈x.2->Rch D i k
 one:∀k,k∈D i->k∈x.1\/k∈x.2
 more:∀j,j∈x.1->∀k,k∈D j->k∈x.1\/k∈x.2
end Go.Abs
/- hasInt looks a number up. -/
namespace Go.Proofs.YtkebfkahdmddpaaGreatDoor
open Go.Abs Go.Proofs
theorem ac4{xs:List Int}{i:Nat}{x b:Int}(h:xs[i]?=some x)(a:(xs.take i).contains b=false)(c:(x==b)=false):(xs.take (i+1)).contains b=false:=by
 obtain⟨hi,rfl⟩:=zC.1 h;rw[List.take_add_one,h];simp only[List.contains_eq_mem,decide_eq_false_iff_not,List.mem_append,Option.toList_some,List.mem_singleton,not_or]at a ⊢;exact⟨a,fun e=>by rw[<- e]at c;simp at c⟩
end Go.Proofs.YtkebfkahdmddpaaGreatDoor
/- Plain laws: uses between parts, what they reach: the two programs alike. -/
namespace Go.Proofs.YtkebfkahdmddpaaGreatDoor
open Go.Abs Go.Proofs
theorem afF(xs:List Int)(b:Int)(f:xs.length<=1048576):Bq xs b=some (xs.contains b):=by
 unfold Bq;refine nR (bU (fun (_:Unit) (i:Nat)=>((xs,b,(i:Int)):(List Int)×Int×Int)) xs (fun i _=>(xs.take i).contains b=false) _ (fun i x _ a c=>?_) (fun _ c=>?_) () rfl)
 ·simp only[bW a,ac,au,a,zA,bT a (by omega)];cases d:(x==b)with
  | true=>
   refine .inr ⟨true,rfl,?_⟩;have e:x=b:=by simpa using d
   have:=zG a;rw[e]at this;simpa using this
  | false=>exact .inl ⟨(),rfl,ac4 a c d⟩
 ·rw[List.take_length]at c;exact⟨false,by simp only[bG,aa],c.symm⟩
theorem acv{σ α:Type}(f:σ->α->σ)(z:σ){xs:List α}{i:Nat}{x:α}(h:xs[i]?=some x):(xs.take (i+1)).foldl f z=f ((xs.take i).foldl f z) x:=by
 obtain⟨hi,rfl⟩:=zC.1 h;rw[List.take_add_one,h,List.foldl_append];rfl
theorem aiR{α:Type}(xs:List α)(n:Nat)(h:n<=xs.length):eff.cutL xs none (some (n:Int))=some (xs.take n):=by
 unfold eff.cutL;simp only[Option.getD_none,Option.getD_some];rw[if_pos ⟨by omega,by omega,by omega⟩];simp
theorem agz{α:Type}(xs:List α)(n:Nat)(h:n<=xs.length):eff.cutL xs (some (n:Int)) none=some (xs.drop n):=by
 unfold eff.cutL;simp only[Option.getD_none,Option.getD_some];rw[if_pos ⟨by omega,by omega,by omega⟩];simp
theorem afz(xs:List Int)(m:xs.length<=1048576):KG xs=some (JW xs):=by
 rw[<- afw];unfold KG;refine nR (bU (fun (s:List Int) (i:Nat)=>((xs,s,(i:Int)):(List Int)×(List Int)×Int)) xs (fun i s=>s.length<=i/\s=(xs.take i).foldl Qg []) _ (fun i y s b d=>.inl ?_) (fun s d=>?_) [] ⟨az _,rfl⟩)
 ·obtain⟨n,es⟩:=d;have hi:=(zC.1 b).1;have step:=acv Qg [] b;rw[<- es]at step;unfold Qg at step;simp only[bW b,ac,au,b,zA,afF s y (by omega),bT b (by omega)];cases l:s.contains y with
  | true=>
   rw[l,if_pos rfl]at step;exact⟨s,rfl,by omega,step.symm⟩
  | false=>
   rw[l,if_neg (by simp)]at step;have put:∀j:Nat,j<=s.length->((eff.cutL s none (some (j:Int))).bind fun g=>
           (gd (0+g.length)).bind fun _=>
           (idx xs (i:Int)).bind fun h=>
           (gd (([]++g).length+[h].length)).bind fun _=>
           (eff.cutL s (some (j:Int)) none).bind fun f=>
           (gd ((([]++g)++[h]).length+f.length)).bind fun _=>
           some (.inl (xs,(([]++g)++[h])++f,((i+1:Nat):Int)):((List Int)×(List Int)×Int)⊕(List Int)))=some (.inl (xs,s.take j++[y]++s.drop j,((i+1:Nat):Int))):=fun j k=>by
    simp only[aiR s j k,agz s j k,zA,au,b];rw[gdp (by simp;omega),zA,gdp (by simp;omega),zA,gdp (by simp;omega),zA];rfl
   simp only[aa];refine⟨H8 y s,?_,?_,step.symm⟩
   ·refine nR (bU (fun (_:Unit) (j:Nat)=>((xs,s,(i:Int),(j:Int)):(List Int)×(List Int)×Int×Int)) s (fun j _=>∀x,x∈s.take j->x<y) _ (fun j x _ e d=>?_) (fun _ d=>?_) () (by simp))
    ·have k:=(zC.1 e).1;have pj:=put j (by omega);simp only[bW e,ac,bT e (by omega),bT b (by omega)];rw[pj];simp only[au,e,b,aD,zA];by_cases c:x<y
     ·rw[al c];refine .inl ⟨(),rfl,fun z a=>?_⟩;rw[List.take_add_one,e]at a;rcases List.mem_append.1 a with a | a
      ·exact d z a
      ·have:z=x:=by simpa using a
       rw[this];exact c
     ·rw[ae c];refine .inr ⟨_,rfl,?_⟩;rw[Uw y s j (by omega) d (fun z a=>by rw[e]at a;cases a;exact c)]
    ·have pj:=put s.length (az _);simp only[bG,aa,bT b (by omega)];rw[pj];refine⟨_,rfl,?_⟩;rw[Uw y s s.length (az _) d (fun z a=>by rw[zJ (az _)]at a;cases a)]
   ·have:∀s:List Int,(H8 y s).length=s.length+1:=by
     intro s;induction s with
     | nil=>rfl
     | cons z r ih=>unfold H8;split<;>simp[ih]
    rw[this];omega
 ·simp only[bG,aa];refine⟨_,rfl,?_⟩;rw[d.2,List.take_length]
def DL(ps:List aO)(s:Str):Option Int:=if 0<=nN (bP s 0 ps)then some (nN (bP s 0 ps))else none
noncomputable def QG(ps:List aO)(i:Int):List Int:=if 0<=i then match ps[i.toNat]? with
  | some p=>JW ((dY p).filterMap (DL ps))
  | none=>[]
 else []
theorem XG{ps:List aO}{us:List Str}{i:Nat}{s:Str}(h:us[i]?=some s):(us.take (i+1)).filterMap (DL ps)=if 0<=nN (bP s 0 ps)then (us.take i).filterMap (DL ps)++[nN (bP s 0 ps)]else (us.take i).filterMap (DL ps):=by
 rw[List.take_add_one,h,List.filterMap_append];unfold DL;split<;>simp_all
theorem KU(ps:List aO)(i:Nat)(p:aO)(h:ps[i]?=some p):QG ps (i:Int)=JW ((dY p).filterMap (DL ps)):=by
 unfold QG;rw[if_pos (by omega),aD,h]
theorem MS(ps:List aO)(o:ps.length<=1000)(f:∀p,p∈ps->lu p)(i:Int):qw ps i=some (QG ps i):=by
 unfold qw;have g:w64 ((ps.length:Int)-1)=(ps.length:Int)-1:=bK (by omega) (by omega);rw[g,iV,zA];by_cases q:i<0
 ·rw[ae (show ¬i>=0 by omega)];unfold QG;rw[if_neg (by omega)];rfl
 obtain⟨n,rfl⟩:∃n:Nat,i=(n:Int):=⟨i.toNat,by omega⟩;by_cases r:(n:Int)>=(ps.length:Int)
 ·rw[ae (show ¬(n:Int)<=(ps.length:Int)-1 by omega),Bool.and_false];unfold QG;rw[if_pos (by omega),aD,zJ (by omega)];rfl
 rw[al (show (n:Int)>=0 by omega),al (show (n:Int)<=(ps.length:Int)-1 by omega)];simp only[Bool.and_self,aM,aa];obtain⟨p,e⟩:∃p,ps[n]?=some p:=⟨_,zF (by omega)⟩;obtain⟨t,h,u⟩:=qM p (f p (zG e));have k:=afz ((dY p).filterMap (DL ps)) (by have:=List.length_filterMap_le (DL ps) (dY p);omega);rw[au,e,zA,nO,h,zA,KU ps n p e];refine nR (bU (fun (out:List Int) (j:Nat)=>((ps,out,dY p,(j:Int)):(List aO)×(List Int)×(List Str)×Int)) (dY p) (fun j out=>out=((dY p).take j).filterMap (DL ps)) _ (fun j s out b c=>.inl ?_) (fun out c=>?_) [] rfl)
 ·have v:=(zC.1 b).1;have l:out.length<=j:=by
   rw[c];have:=List.length_filterMap_le (DL ps) ((dY p).take j);rw[ba]at this;omega
  have m:∀n:Int,gd (out.length+[n].length)=some ():=fun n=>gdp (by simp;omega)
  have a:=XG (ps:=ps) b;rw[<- c]at a;simp only[bW b,ac,au,b,aD,zA,EP ps s (by omega),m,bT b (by omega)];by_cases d:0<=nN (bP s 0 ps)
  ·rw[al (show nN (bP s 0 ps)>=0 from d)];exact⟨_,rfl,by rw[a,if_pos d]⟩
  ·rw[ae (show ¬nN (bP s 0 ps)>=0 from d)];exact⟨_,rfl,by rw[a,if_neg d]⟩
 ·rw[List.take_length]at c;subst c;simp only[bG,aa,k,zA];exact⟨_,rfl,rfl⟩
end Go.Proofs.YtkebfkahdmddpaaGreatDoor
/- Plain laws of the functions that mark a value and look for the marks. -/
namespace Go.Proofs.YtkebfkahdmddpaaGreatDoor
open Go.Abs Go.Proofs
theorem dec_lt{α:Type}{xs:List α}{i:Nat}{x:α}(h:xs[i]?=some x):decide ((i:Int)<(xs.length:Int))=true:=by
 have:=(zC.1 h).1;simpa using this
theorem xg{α:Type}{xs:List α}{i:Nat}{x:α}(h:xs[i]?=some x)(a:xs.length<4611686018427387904):w64 ((i:Int)+1)=((i+1:Nat):Int):=by
 have:=(zC.1 h).1;rw[bK (by omega) (by omega)];omega
end Go.Proofs.YtkebfkahdmddpaaGreatDoor
/- Plain laws of marks, by genmark.py. -/
namespace Go.Proofs.YtkebfkahdmddpaaGreatDoor
open Go.Abs Go.Proofs
end Go.Proofs.YtkebfkahdmddpaaGreatDoor
/- Notebooks that fit. -/
namespace Go.Proofs.YtkebfkahdmddpaaGreatDoor
open Go.Abs Go.Proofs
abbrev FitC(cs:List aj):Prop:=∀x,x∈cs->Fit B20 (.base .cell) x
theorem acF{cs:List aj}(h:Fit B20 (.base .notebook) ⟨cs⟩):FitC cs/\cs.length<=1048576:=by
 rw[Gt]at h;have b:(cs.length:Int)<=1048576:=NU h;exact⟨fun x a=>h.NS x a,by omega⟩
theorem ae4{cs:List aj}(h:FitC cs):∀x,x∈cs->kJ x:=by
 intro x a;have:=h x a;rw[Gv]at this;have b:=aag this.2.2.2.1;have c:=aag this.2.2.2.2.1;exact⟨by omega,by omega⟩
end Go.Proofs.YtkebfkahdmddpaaGreatDoor
/- Plain law: RenameVariable. -/
namespace Go.Proofs.YtkebfkahdmddpaaGreatDoor
open Go.Abs Go.Proofs
end Go.Proofs.YtkebfkahdmddpaaGreatDoor
/- The plain law of IsValidHistory. -/
namespace Go.Proofs.YtkebfkahdmddpaaGreatDoor
open Go.Abs Go.Proofs
end Go.Proofs.YtkebfkahdmddpaaGreatDoor
/- Plain law: IsValidOp. -/
namespace Go.Proofs.YtkebfkahdmddpaaGreatDoor
open Go.Abs Go.Proofs
end Go.Proofs.YtkebfkahdmddpaaGreatDoor
/- Plain laws: equality of lists, values, reads, operations; valid logs and replicas; HasSeen. -/
namespace Go.Proofs.YtkebfkahdmddpaaGreatDoor
open Go.Abs Go.Proofs
section eqs
end eqs
end Go.Proofs.YtkebfkahdmddpaaGreatDoor
/- Plain laws: HasSeen, valid logs and replicas, equality of documents. -/
namespace Go.Proofs.YtkebfkahdmddpaaGreatDoor
open Go.Abs Go.Proofs
theorem Zv{α:Type}{xs:List α}{n:Int}(b:0<=n)(c:n<xs.length):∃x,idx xs n=some x/\xs[n.toNat]?=some x:=by
 have a:n.toNat<xs.length:=by omega
 exact⟨xs[n.toNat],by unfold idx;rw[if_pos b];simp[a],by simp[a]⟩
end Go.Proofs.YtkebfkahdmddpaaGreatDoor
/- Plain laws with marks: ChangedVersions, NewHistory, PathTo. Plain laws: one edit; both sides alike. Plain laws: batches of edits; ApplyBatch, IsNoChange. Plain laws with marks: PathTo, NewReplica. Plain laws with marks: SeenBy. Plain laws: inverse edits and batches, copies and steps of histories; both sides alike. Plain laws: UndoEdits, RedoEdits, DoEdits. Plain laws: GoTo. -/
namespace Go.Proofs.YtkebfkahdmddpaaGreatDoor
open Go.Abs Go.Proofs
theorem NQ{α σ ρ X:Type}{g:X->Option (X⊕ρ)}(pk:σ->Nat->X)(xs:List α)(f:σ->α->σ)(fin:σ->ρ)(I:Nat->σ->Prop)
  (d:∀i x s,xs[i]?=some x->I i s->I (i+1) (f s x))
  (e:∀i x s,xs[i]?=some x->I i s->g (pk s i)=some (.inl (pk (f s x) (i+1))))
  (h:∀s,I xs.length s->g (pk s xs.length)=some (.inr (fin s))) (s:σ) (j:I 0 s):ak g (pk s 0)=some (fin (xs.foldl f s))/\I xs.length (xs.foldl f s):=by
 have key:∀(n i:Nat) (s:σ),xs.length=i+n->I i s->ak g (pk s i)=some (fin ((xs.drop i).foldl f s))/\I xs.length ((xs.drop i).foldl f s):=by
  intro n;induction n with
  | zero=>
   intro i s hi a;rw[List.drop_eq_nil_of_le (by omega),aJ];have:i=xs.length:=by omega
   subst this;rw[h s a];exact⟨rfl,a⟩
  | succ n ih=>
   intro i s hi a;have b:i<xs.length:=by omega
   have c:=zF b;rw[List.drop_eq_getElem_cons b,aJ,e i xs[i] s c a];exact ih (i+1) (f s xs[i]) (by omega) (d i xs[i] s c a)
 simpa using key xs.length 0 s (by omega) j
theorem dR{n:Nat}(h:n<=34359738368):gd n=some ():=by unfold gd;rw[if_pos h]
theorem Az{α:Type}(p:α->Bool):∀(xs:List α) (i:Nat),kP p xs i = -1\/∃(n:Nat) (x:α),kP p xs i=((i+n:Nat):Int)/\xs[n]?=some x
 | [],i=>.inl rfl
 | y::ys,i=>by
  unfold kP;cases b:p y with
  | true=>exact .inr ⟨0,y,by simp,rfl⟩
  | false=>
   rcases Az p ys (i+1)with h | ⟨n,x,h,a⟩
   ·exact .inl (by simpa using h)
   ·refine .inr ⟨n+1,x,?_,by simpa using a⟩;have:i+1+n=i+(n+1):=by omega
    rw[<- this];simpa using h
def AO(bs:List aj)(s:List Int)(c:aj):List Int:=
 bif decide (kP (fun d=>d.id==c.id) bs 0>=0)then
  match idx bs (kP (fun d=>d.id==c.id) bs 0)with
  | some d=>bif (d.version != c.version)then s++[c.id]else s
  | none=>s
 else s
theorem OQ(bs:List aj)(s:List Int)(c:aj):(AO bs s c).length<=s.length+1:=by
 unfold AO;cases decide (kP (fun d=>d.id==c.id) bs 0>=0)with
 | false=>simp
 | true=>
  simp only[ac];split
  ·rename_i d _;cases (d.version != c.version)<;>simp
  ·simp
theorem CO(a b:aC)(v:(a.cells.length:Int)<=1048576)(y:(b.cells.length:Int)<=1048576) :
  ∃w,oZ a b=some w/\pJ a b=some w/\(w.length:Int)<=1048576/\w=a.cells.foldl (AO b.cells) []:=by
 have j:b.cells.length<lim:=NV y;have l:a.cells.length<lim:=NV v;have hall:a.cells.length<4611686018427387904:=l;let w:=a.cells.foldl (AO b.cells) [];have t:=NQ (g:=fun (c:(List aj)×(List aj)×(List Int)×Int)=>
  bif (decide (c.2.2.2<(c.1.length:Int)))then
   (idx c.1 c.2.2.2).bind fun f=>
   (ng (aC.mk c.2.1) f.id).bind fun k=>
   bif (decide (k>=0))then
    (idx c.2.1 k).bind fun m=>
    (idx c.1 c.2.2.2).bind fun z=>
    bif (m.version != z.version)then
     (idx c.1 c.2.2.2).bind fun u=>
     (gd (c.2.2.1.length+[u.id].length)).bind fun _=>
     some (.inl (c.1,c.2.1,c.2.2.1++[u.id],w64 (c.2.2.2+1)))
    else
     some (.inl (c.1,c.2.1,c.2.2.1,w64 (c.2.2.2+1)))
   else
    some (.inl (c.1,c.2.1,c.2.2.1,w64 (c.2.2.2+1)))
  else
   some (.inr (c.2.2.1))) (fun (s:List Int) (i:Nat)=>(a.cells,b.cells,s,(i:Int))) a.cells (AO b.cells) id (fun i s=>s.length<=i)
  (fun i x s _ hi=>Nat.le_trans (OQ _ _ _) (by omega)) (fun i x s e hi=>?_) (fun s _=>by simp) [] (by simp)
 have hi:=NQ (g:=fun (c:(List aj)×(List Int)×(List aj)×Int×Int)=>
  bif (decide (c.2.2.2.2<c.2.2.2.1))then
   (idx c.2.2.1 c.2.2.2.2).bind fun f=>
   (nG (aC.mk c.1) f.id).bind fun k=>
   bif (decide (k>=0))then
    (idx c.1 k).bind fun m=>
    bif (m.version != f.version)then
     (gd (c.2.1.length+[f.id].length)).bind fun _=>
     some (.inl (c.1,c.2.1++[f.id],c.2.2.1,c.2.2.2.1,w64 (c.2.2.2.2+1)))
    else
     some (.inl (c.1,c.2.1,c.2.2.1,c.2.2.2.1,w64 (c.2.2.2.2+1)))
   else
    some (.inl (c.1,c.2.1,c.2.2.1,c.2.2.2.1,w64 (c.2.2.2.2+1)))
  else
   some (.inr (c.2.1))) (fun (s:List Int) (i:Nat)=>(b.cells,s,a.cells,(a.cells.length:Int),(i:Int))) a.cells (AO b.cells) id (fun i s=>s.length<=i)
  (fun i x s _ hi=>Nat.le_trans (OQ _ _ _) (by omega)) (fun i x s e hi=>?_) (fun s _=>by simp) [] (by simp)
 ·refine⟨w,t.1,hi.1,?_,rfl⟩;have:w.length<=a.cells.length:=t.2;omega
 ·have o:=(zC.1 e).1;have p:=xg e hall;have q:gd (s.length+[x.id].length)=some ():=dR (by simp;omega);simp only[dec_lt e,ac,au,e,zA,Qy (aC.mk b.cells) x.id j,p,AO,q];rcases Az (fun d:aj=>d.id==x.id) b.cells 0 with h | ⟨n,d,h,r⟩
  ·rw[h];simp
  ·rw[h,Nat.zero_add];simp only[show decide (((n:Nat):Int)>=0)=true by simp,ac,au,r,zA];cases (d.version != x.version)<;>simp
 ·have o:=(zC.1 e).1;have p:=xg e hall;have q:gd (s.length+[x.id].length)=some ():=dR (by simp;omega);simp only[dec_lt e,ac,au,e,zA,PW (aC.mk b.cells) x.id j,p,AO,q];rcases Az (fun d:aj=>d.id==x.id) b.cells 0 with h | ⟨n,d,h,r⟩
  ·rw[h];simp
  ·rw[h,Nat.zero_add];simp only[show decide (((n:Nat):Int)>=0)=true by simp,ac,au,r,zA];cases (d.version != x.version)<;>simp
theorem aaW{α:Type}(xs:List α)(n:Nat)(h:n<=xs.length):eff.cutL xs none (some (n:Int))=some (xs.take n):=by
 unfold eff.cutL;simp only[Option.getD_none,Option.getD_some];rw[if_pos ⟨by omega,by omega,by omega⟩];simp
theorem SI{α:Type}(xs:List α)(n:Nat)(h:n<=xs.length):eff.cutL xs (some (n:Int)) none=some (xs.drop n):=by
 unfold eff.cutL;simp only[Option.getD_none,Option.getD_some];rw[if_pos ⟨by omega,by omega,by omega⟩];simp
theorem int0{n:Int}(h:(Lit.int .i64 n).wf=true):fH B20 (.int .i64 n):=.int .i64 _ h
theorem acS{n:Int}(a:-1000000000<=n)(b:n<=1000000000):(Lit.int .i64 n).wf=true:=by
 unfold Lit.wf;simp[IntKind.bits,IntKind.signed,IntKind.min,IntKind.max];omega
end Go.Proofs.YtkebfkahdmddpaaGreatDoor
/- Plain laws: copies of values, reads, operations and replicas are the same. Plain laws: MissingOps, AddOp. -/
namespace Go.Proofs.YtkebfkahdmddpaaGreatDoor
open Go.Abs Go.Proofs
theorem aft{α:Type}(f:α->Nat){xs ys:List α}(h:xs.Sublist ys):(xs.map f).sum<=(ys.map f).sum:=by
 induction h with
 | slnil=>exact az _
 | cons x _ ih=>simp only[List.map_cons,List.sum_cons];omega
 | cons_cons x _ ih=>simp only[List.map_cons,List.sum_cons];omega
end Go.Proofs.YtkebfkahdmddpaaGreatDoor
