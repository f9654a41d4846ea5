import Derived.Test.YtkebfkahdmddpaaGreatDoorPlain4
set_option linter.unusedSimpArgs false
set_option linter.unusedVariables false
/- Plain laws: expressions of the reference: sizes, validity, text; every function is total. Plain laws: the text of numbers and of expressions of the reference: total, and short. -/
namespace Go.Proofs.YtkebfkahdmddpaaGreatDoor
open Go.Abs Go.Proofs
theorem Q5{e:af}:siz e.args<siz e:=by
 cases e;simp only[siz];rw[af.mk.sizeOf_spec];omega
theorem VH{x:af}{xs:List af}(h:x∈xs):siz x+1<=siz xs:=by
 have:=List.sizeOf_lt_of_mem h;simp only[siz];omega
theorem kC{x e:af}(h:x∈e.args):siz x+2<=siz e:=by
 have:=VH h;have:=Q5 (e:=e);omega
theorem aaV{l:List af}(h:fH B20 (.list (.base .expr) l)){x:af}(a:x∈l):fH B20 (.list (.base .expr) x.args)/\(x.text.length:Int)<=1048576:=by
 have:=h.NS x a;rw[Gu]at this;exact⟨this.2.2.2,aag this.2.2.1⟩
theorem BH{α X ρ σ:Type}{g:X->Option (X⊕ρ)}(pk:σ->Nat->X)(xs:List α)(I:Nat->σ->Prop)(R:ρ->Prop)
  (f:∀i x s,xs[i]?=some x->I i s->(∃s',g (pk s i)=some (.inl (pk s' (i+1)))/\I (i+1) s')\/∃r,g (pk s i)=some (.inr r)/\R r)
  (h:∀s,I xs.length s->∃r,g (pk s xs.length)=some (.inr r)/\R r) (s:σ) (j:I 0 s):∃r,ak g (pk s 0)=some r/\R r:=by
 have key:∀(k i:Nat) (s:σ),xs.length=i+k->I i s->∃r,ak g (pk s i)=some r/\R r:=by
  intro k;induction k with
  | zero=>
   intro i s hi b;have:i=xs.length:=by omega
   subst this;obtain⟨r,e,a⟩:=h s b;exact⟨r,by rw[aJ,e],a⟩
  | succ k ih=>
   intro i s hi b;have c:i<xs.length:=by omega
   rcases f i _ s (zF c) b with ⟨s',e,d⟩ | ⟨r,e,a⟩
   ·obtain⟨r,e',a⟩:=ih (i+1) s' (by omega) d;exact⟨r,by rw[aJ,e];exact e',a⟩
   ·exact⟨r,by rw[aJ,e],a⟩
 exact key xs.length 0 s (by omega) j
theorem aeP(x:af):af.mk x.kind x.n x.text x.args=x:=by cases x;rfl
theorem Lu{α:Type}(f:α->Nat){xs:List α}{i:Nat}{x:α}(h:xs[i]?=some x):((xs.take (i+1)).map f).sum=((xs.take i).map f).sum+f x:=by
 obtain⟨hi,rfl⟩:=zC.1 h;rw[List.take_succ_eq_append_getElem hi,List.map_append,List.sum_append];simp
theorem abt(a b:Int):∃r,Dz a b=some r:=by
 unfold Dz;cases decide (a>b)<;>exact⟨_,rfl⟩
theorem Fg:∀(n:Nat) (e:af) (b:Int),siz e<n->fH B20 (.list (.base .expr) e.args)->0<=b->b<=1048576 ->
  ∃r,oU n e b=some r/\-1<=r/\r<=b-1/\(0<=r->3*r+(dP e:Int)<=3*b)
 | 0,e,b,h,_,_,_=>absurd h (Nat.not_lt_zero _)
 | n+1,e,b,u,k,v,w=>by
  have ih:=Fg n;have m:=NV (NU k);show ∃r,vM (oU n) e b=some r/\_
  unfold vM;rw[bK (n:=b-1) (by omega) (by omega)];refine BH (fun (s:Int) (i:Nat)=>((s,e.kind,e.n,e.text,e.args,(i:Int)):Int×Int×Int×Str×(List af)×Int)) e.args
   (fun i s=>-1<=s/\s<=b-1/\(0<=s->3*s+3+(((e.args.take i).map dP).sum:Int)<=3*b)) _ (fun i x s a d=>?_) (fun s d=>?_) (b-1) ⟨by omega,by omega,fun _=>by simp;omega⟩
  ·obtain⟨f,g,j⟩:=d;have l:=zG a;by_cases c:s>=0
   ·obtain⟨r,o,p,y,q⟩:=ih x s (by have:=kC l;omega) (aaV k l).1 c (by omega);refine .inl ⟨r,?_,p,by omega,fun t=>?_⟩
    ·simp only[dec_lt a,ac,al c,au,a,zA,aH,o,xg a m]
    ·have:=j c;have:=q t;rw[Lu dP a];omega
   ·refine .inr ⟨s,?_,f,g,fun h=>absurd h c⟩;simp only[dec_lt a,ac,ae c,aa]
  ·obtain⟨f,g,j⟩:=d;refine⟨s,by simp only[iJ,aa],f,g,fun h=>?_⟩;have:=j h;rw[List.take_length]at this;rw[AX,jl];omega
theorem Wh(e:af)(b:Int)(a:fH B20 (.list (.base .expr) e.args))(c:0<=b)(d:b<=1048576) :
  ∃r,zT e b=some r/\-1<=r/\r<=b-1/\(0<=r->3*r+(dP e:Int)<=3*b):=Fg _ e b (Nat.lt_succ_self _) a c d
theorem zx:∀(n:Nat) (e:af),siz e<n->fH B20 (.list (.base .expr) e.args)->∃r,eP n e=some r/\True
 | 0,e,h,_=>absurd h (Nat.not_lt_zero _)
 | n+1,e,k,b=>by
  have ih:=zx n;have d:=NV (NU b);show ∃r,ja (eP n) e=some r/\_
  unfold ja;refine BH (fun (s:Int) (i:Nat)=>((e.kind,e.n,e.text,e.args,s,(i:Int)):Int×Int×Str×(List af)×Int×Int)) e.args (fun _ _=>True) _ (fun i x s a f=>?_) (fun s f=>?_) 0 trivial
  ·have c:=zG a;obtain⟨r,g,_⟩:=ih x (by have:=kC c;omega) (aaV b c).1;obtain⟨m,j⟩:=abt s r;refine .inl ⟨m,?_,trivial⟩;simp only[dec_lt a,ac,au,a,zA,aH,g,j,xg a d]
  ·exact⟨_,by simp only[iJ,aa];rfl,trivial⟩
theorem Pv(e:af)(a:fH B20 (.list (.base .expr) e.args)):∃r,sD e=some r:=by
 obtain⟨r,h,_⟩:=zx _ e (Nat.lt_succ_self _) a;exact⟨r,h⟩
theorem JX(a:Str)(h:a.length<lim):∃v,dw a=some v/\(v=true->a.length<=20):=by
 unfold dw;refine BH (fun (_:Unit) (i:Nat)=>((a,(i:Int)):Str×Int)) a (fun _ _=>True) _ (fun i x s b c=>?_) (fun s c=>?_) () trivial
 ·simp only[dec_lt b,ac,au,b,zA,xg b h];cases decide ((x.toNat:Int)<32)with
  | true=>exact .inr ⟨false,rfl,fun h=>(by cases h)⟩
  | false=>
   cases decide ((x.toNat:Int)>126)with
   | true=>exact .inr ⟨false,rfl,fun h=>(by cases h)⟩
   | false=>
    cases ((x.toNat:Int)==34)with
    | true=>exact .inr ⟨false,rfl,fun h=>(by cases h)⟩
    | false=>exact .inl ⟨(),rfl,trivial⟩
 ·refine⟨_,by simp only[iJ,aa];rfl,fun h=>?_⟩;simp at h;omega
theorem MP(a:Str):∃v,kS a=some v:=by
 unfold kS qj;rw[zA,abu _ _ (by decide)];exact⟨_,rfl⟩
theorem Pj(a:Str)(h:a.length<lim):∃v,aX a=some v/\(v=true->a.length<=8/\1<=a.length):=by
 obtain⟨b,e⟩:=MP a;unfold aX;rw[VU a h,e];cases O5 okc a 0 with
 | false=>exact⟨false,rfl,fun h=>(by cases h)⟩
 | true=>
  by_cases c:(a.length:Int)>0
  ·by_cases d:(a.length:Int)<=8
   ·rw[al c,al d];cases b with
    | true=>exact⟨false,rfl,fun h=>(by cases h)⟩
    | false=>exact⟨true,rfl,fun _=>⟨by omega,by omega⟩⟩
   ·rw[al c,ae d];exact⟨false,rfl,fun h=>(by cases h)⟩
  ·rw[ae c];exact⟨false,rfl,fun h=>(by cases h)⟩
theorem Fq(a:Str):∃r,cu a=some r/\r<=4/\(0<=r->a.length<=6):=by
 unfold cu;have go:∀(w:Str) (k:Int) (z:Option Int),w.length<=6->k<=4->(∃r,z=some r/\r<=4/\(0<=r->a.length<=6))->∃r,(bif (a==w)then some k else z)=some r/\r<=4/\(0<=r->a.length<=6):=by
  intro w k z b c d;cases h:(a==w)with
  | true=>
   have e:=eq_of_beq h;exact⟨k,rfl,c,fun _=>by rw[e];exact b⟩
  | false=>exact d
 repeat refine go _ _ _ (by decide) (by decide) ?_
 exact⟨-1,rfl,by decide,fun h=>by omega⟩
structure JR(e:af):Prop where
 k0:1<=e.kind
 k9:e.kind<=9
 num:e.kind=1->0<=e.n/\e.n<=1000000000
 text:e.text.length<=20
 call:e.kind=5->e.args.length<=4
 list:e.kind=4->e.args.length<=8
 op:e.kind=6->e.args.length=2/\1<=e.n/\e.n<=5
 two:e.kind=7\/e.kind=9->e.args.length=2
 three:e.kind=8->e.args.length=3
inductive yF:af->Prop
 | mk (e:af) (h:JR e) (hs:∀x,x∈e.args->yF x):yF e
theorem VZ(a b c:Int):∃v,qm a b c=some v/\(v=true->b<=a/\a<=c):=⟨_,VY a b c,fun h=>by simpa using h⟩
theorem V8(e:af)(l:e.text.length<lim)(w:(e.args.length:Int)<=1048576):∃v,jd e=some v/\(v=true->JR e):=by
 obtain⟨x,m,o⟩:=VZ e.n 0 1000000000;obtain⟨y,p,q⟩:=JX e.text l;obtain⟨v3,r,f⟩:=Pj e.text l;obtain⟨A,s,B,g⟩:=Fq e.text;obtain⟨C,t,u⟩:=VZ e.n 1 5;have no:∃v,(some false:Option Bool)=some v/\(v=true->JR e):=⟨false,rfl,fun h=>(by cases h)⟩;have bb:∀(c:Bool) (z:Option Bool),(c=true->∃v,z=some v/\(v=true->JR e))->∃v,(bif c then z else some false)=some v/\(v=true->JR e):=by
  intro c z i;cases c with
  | true=>exact i rfl
  | false=>exact no
 have kk:∀(k:Int) (z z':Option Bool),(e.kind=k->∃v,z=some v/\(v=true->JR e))->(¬e.kind=k->∃v,z'=some v/\(v=true->JR e))->∃v,(bif (e.kind==k)then z else z')=some v/\(v=true->JR e):=by
  intro k z z' i j;cases h:(e.kind==k)with
  | true=>exact i (eq_of_beq h)
  | false=>exact j (by simpa using h)
 unfold jd;simp only[m,p,r,s,t,zA];refine kk 1 _ _ (fun d=>bb _ _ fun b=>bb _ _ fun a=>⟨_,rfl,fun hv=>?_⟩) fun D=>?_
 ·have:=o hv;have a:=eq_of_beq a;exact⟨by omega,by omega,fun _=>this,by rw[a];simp,fun h=>by omega,fun h=>by omega,fun h=>by omega,fun h=>by omega,fun h=>by omega⟩
 refine kk 2 _ _ (fun d=>bb _ _ fun b=>bb _ _ fun a=>⟨_,rfl,fun hv=>?_⟩) fun E=>?_
 ·exact⟨by omega,by omega,fun h=>by omega,q hv,fun h=>by omega,fun h=>by omega,fun h=>by omega,fun h=>by omega,fun h=>by omega⟩
 refine kk 3 _ _ (fun d=>bb _ _ fun b=>bb _ _ fun a=>⟨_,rfl,fun hv=>?_⟩) fun F=>?_
 ·have:=f hv;exact⟨by omega,by omega,fun h=>by omega,by omega,fun h=>by omega,fun h=>by omega,fun h=>by omega,fun h=>by omega,fun h=>by omega⟩
 refine kk 4 _ _ (fun d=>bb _ _ fun b=>bb _ _ fun a=>⟨_,rfl,fun hv=>?_⟩) fun G=>?_
 ·have a:=eq_of_beq a;have hv:=of_decide_eq_true hv;exact⟨by omega,by omega,fun h=>by omega,by rw[a];simp,fun h=>by omega,fun h=>by omega,fun h=>by omega,fun h=>by omega,fun h=>by omega⟩
 refine kk 5 _ _ (fun d=>bb _ _ fun b=>⟨_,rfl,fun hv=>?_⟩) fun H=>?_
 ·have hv:=eq_of_beq hv;have:=g (by omega);exact⟨by omega,by omega,fun h=>by omega,by omega,fun h=>by omega,fun h=>by omega,fun h=>by omega,fun h=>by omega,fun h=>by omega⟩
 refine kk 6 _ _ (fun d=>bb _ _ fun b=>bb _ _ fun a=>⟨_,rfl,fun hv=>?_⟩) fun I=>?_
 ·have b:=eq_of_beq b;have a:=eq_of_beq a;have:=u hv;exact⟨by omega,by omega,fun h=>by omega,by rw[b];simp,fun h=>by omega,fun h=>by omega,fun _=>⟨by omega,this⟩,fun h=>by omega,fun h=>by omega⟩
 refine kk 7 _ _ (fun d=>bb _ _ fun b=>bb _ _ fun a=>⟨_,rfl,fun hv=>?_⟩) fun J=>?_
 ·have a:=eq_of_beq a;have:=f hv;exact⟨by omega,by omega,fun h=>by omega,by omega,fun h=>by omega,fun h=>by omega,fun h=>by omega,fun _=>by omega,fun h=>by omega⟩
 refine kk 9 _ _ (fun d=>bb _ _ fun b=>bb _ _ fun a=>⟨_,rfl,fun hv=>?_⟩) fun n9=>?_
 ·have a:=eq_of_beq a;have:=f hv;exact⟨by omega,by omega,fun h=>by omega,by omega,fun h=>by omega,fun h=>by omega,fun h=>by omega,fun _=>by omega,fun h=>by omega⟩
 refine kk 8 _ _ (fun d=>bb _ _ fun b=>bb _ _ fun a=>⟨_,rfl,fun hv=>?_⟩) fun K=>no
 ·have a:=eq_of_beq a;have hv:=eq_of_beq hv;exact⟨by omega,by omega,fun h=>by omega,by rw[a];simp,fun h=>by omega,fun h=>by omega,fun h=>by omega,fun h=>by omega,fun _=>by omega⟩
theorem Jo:∀(n:Nat) (e:af),siz e<n->Fit B20 (.base .expr) e->∃v,jI n e=some v/\(v=true->yF e)
 | 0,e,h,_=>absurd h (Nat.not_lt_zero _)
 | n+1,e,q,o=>by
  have ih:=Jo n;have a:=o;rw[Gu]at a;have p:=NV (NU a.2.2.2);show ∃v,oh (jI n) e=some v/\_
  unfold oh;refine BH (fun (_:Unit) (i:Nat)=>((e.kind,e.n,e.text,e.args,(i:Int)):Int×Int×Str×(List af)×Int)) e.args (fun i _=>∀j x,e.args[j]?=some x->j<i->yF x) _ (fun i x s b d=>?_) (fun s d=>?_) () (fun j x _ c=>absurd c (Nat.not_lt_zero _))
  ·have m:=zG b;obtain⟨v,f,g⟩:=ih x (by have:=kC m;omega) (a.2.2.2.NS x m);simp only[dec_lt b,ac,au,b,zA,aH,f,xg b p];cases v with
   | false=>exact .inr ⟨false,rfl,fun h=>(by cases h)⟩
   | true=>
    refine .inl ⟨(),rfl,fun j y k c=>?_⟩;by_cases l:j=i
    ·subst l;rw[b]at k;cases k
     exact g rfl
    ·exact d j y k (by omega)
  ·obtain⟨v,f,g⟩:=V8 e (NV (aag a.2.2.1)) (NU a.2.2.2);refine⟨v,by simp only[iJ,aa,aeP,f,zA],fun hv=>.mk e (g hv) fun x b=>?_⟩;obtain⟨j,c⟩:=List.mem_iff_getElem?.1 b;exact d j x c (zC.1 c).1
theorem Y3(e:af)(a:Fit B20 (.base .expr) e):∃v,uy e=some v/\(v=true->yF e):=Jo _ e (Nat.lt_succ_self _) a
theorem JY(e:af)(c:Fit B20 (.base .expr) e):∃v,bV e=some v/\(v=true->yF e/\dP e<=120):=by
 have a:=c;rw[Gu]at a;obtain⟨d,f,m,n,g⟩:=Wh e 40 a.2.2.2 (by omega) (by omega);obtain⟨i,j⟩:=Pv e a.2.2.2;obtain⟨v,k,l⟩:=Y3 e c;unfold bV;simp only[aH,f,j,k,zA];by_cases b:d>=0
 ·rw[al b,ac];cases decide (i<=8)with
  | true=>exact⟨v,rfl,fun hv=>⟨l hv,by have:=g b;omega⟩⟩
  | false=>exact⟨false,rfl,fun h=>(by cases h)⟩
 ·rw[ae b];exact⟨false,rfl,fun h=>(by cases h)⟩
theorem uU(a:Int)(i:0<=a)(f:a<9223372036854775808):∃s,dM a=some s/\s.length<=19/\1<=s.length:=by
 unfold dM;by_cases d:a=0
 ·subst d;exact⟨_,rfl,by simp,by simp⟩
 have j:(a==0)=false:=by simpa using d
 have en:decide (a<0)=false:=by simp;omega
 rw[j,aa,en];have key:∀(n:Nat) (k:Int) (s:Str),0<=k->k<9223372036854775808->k<10 ^ n->s.length+n<=19->(k=0->1<=s.length)->∃t,ak (fun (b:Int×Bool×Str)=>
  bif (b.1 != 0)then
   bif (decide ((b.1.tmod 10)<0))then
    (gd ((bytesOf [w8 (w64 (48+(w64 (0-(b.1.tmod 10)))))]).length+b.2.2.length)).bind fun _=>
    some (.inl (w64 (b.1.tdiv 10),b.2.1,(bytesOf [w8 (w64 (48+(w64 (0-(b.1.tmod 10)))))])++b.2.2))
   else
    (gd ((bytesOf [w8 (w64 (48+(b.1.tmod 10)))]).length+b.2.2.length)).bind fun _=>
    some (.inl (w64 (b.1.tdiv 10),b.2.1,(bytesOf [w8 (w64 (48+(b.1.tmod 10)))])++b.2.2))
  else
   (
    bif b.2.1 then
     (gd ([45].length+b.2.2.length)).bind fun _=>
     some ([45]++b.2.2)
    else
     some (b.2.2)
   ).bind fun r=>some (.inr r)) (k,false,s)=some t/\t.length<=19/\1<=t.length:=by
  intro n
  induction n with
  | zero=>
   intro k s c _ e l f
   have g:k=0:=by simp at e;omega
   subst g
   rw[aJ]
   exact⟨s,rfl,by omega,f rfl⟩
  | succ n ih=>
   intro k s c m e l hpos
   rw[aJ]
   by_cases d:k=0
   ·subst d;exact⟨s,rfl,by omega,hpos rfl⟩
   ·have o:(k != 0)=true:=by simpa using d
    have q:decide (k.tmod 10<0)=false:=by
     have:=Int.tmod_nonneg 10 c;simp;omega
    have u:gd ((bytesOf [w8 (w64 (48+(k.tmod 10)))]).length+s.length)=some ():=dR (by simp[bytesOf];omega);have v:k.tdiv 10=k / 10:=by rw[Int.tdiv_eq_ediv_of_nonneg c]
    have w:w64 (k.tdiv 10)=k / 10:=by rw[v];exact bK (by omega) (by omega)
    simp only[o,q,ac,aa,u,zA,w];refine ih (k / 10) _ (by omega) (by omega) ?_ (by simp[bytesOf];omega) (fun _=>by simp[bytesOf]);have:(10:Int) ^ (n+1)=10 ^ n*10:=Int.pow_succ 10 n;rw[this]at e;generalize (10:Int) ^ n=p at e ⊢;omega
 exact key 19 a [] i f (by rw[show (10:Int) ^ 19=10000000000000000000 from rfl];omega) (by simp) (fun h=>absurd h d)
theorem sN(s:Str):(jX s).length=s.length:=by unfold jX;rw[List.length_map]
theorem X6(xs:List Int):(bytesOf xs).length=xs.length:=by unfold bytesOf;rw[List.length_map]
def lens(xs:List Str):Nat:=(xs.map List.length).sum
theorem RN(xs:List Str)(x:Str):lens (xs++[x])=lens xs+x.length:=by simp[lens]
theorem Wj(xs:List Str)(b:Str)(g:xs.length<lim)(k:lens xs+xs.length*b.length<=1000000):∃s,Fh xs b=some s/\s.length<=lens xs+xs.length*b.length:=by
 unfold Fh;refine BH (fun (s:List Int) (i:Nat)=>((xs,b,s,(i:Int)):(List Str)×Str×(List Int)×Int)) xs (fun i s=>s.length<=lens (xs.take i)+i*b.length) _ (fun i x s a c=>.inl ?_) (fun s c=>?_) [] (by simp)
 ·have hi:=(zC.1 a).1;have l:lens (xs.take (i+1))=lens (xs.take i)+x.length:=Lu List.length a;have h:lens (xs.take (i+1))<=lens xs:=aft _ (List.take_sublist _ _);have m:(i+1)*b.length<=xs.length*b.length:=Nat.mul_le_mul_right _ hi;have j:(i+1)*b.length=i*b.length+b.length:=Nat.succ_mul _ _;have d:gd (s.length+(jX b).length)=some ():=dR (by rw[sN];omega);have e:gd ((s++jX b).length+(jX x).length)=some ():=dR (by rw[a7,sN,sN];omega);have f:gd (s.length+(jX x).length)=some ():=dR (by rw[sN];omega);simp only[dec_lt a,ac,au,a,zA,d,e,f,xg a g];cases decide ((i:Int)>0)with
  | true=>exact⟨_,rfl,by rw[a7,a7,sN,sN];omega⟩
  | false=>exact⟨_,rfl,by rw[a7,sN];omega⟩
 ·rw[List.take_length]at c;exact⟨_,by simp only[iJ,aa];rfl,by rw[X6];exact c⟩
theorem Jc(e:af):∃r,og e=some r/\0<=r/\r<=4:=by
 have go:∀(c:Bool) (x y:Option Int),(∃r,x=some r/\0<=r/\r<=4)->(∃r,y=some r/\0<=r/\r<=4)->∃r,(bif c then x else y)=some r/\0<=r/\r<=4:=by
  intro c x y g i;cases c with
  | true=>exact g
  | false=>exact i
 have v:∀k:Int,0<=k->k<=4->∃r,(some k:Option Int)=some r/\0<=r/\r<=4:=fun k h j=>⟨k,rfl,h,j⟩
 have a:=v 0 (by decide) (by decide);have b:=v 1 (by decide) (by decide);have d:=v 2 (by decide) (by decide);have l:=v 3 (by decide) (by decide);have f:=v 4 (by decide) (by decide);unfold og;exact go _ _ _ a (go _ _ _ a (go _ _ _ a (go _ _ _ (go _ _ _ b (go _ _ _ b (go _ _ _ d (go _ _ _ d (go _ _ _ l f))))) f)))
theorem TV(n:Int)(a:1<=n)(b:n<=5):∃s,rH n=some s/\s.length<=2:=by
 unfold rH;have:n=1\/n=2\/n=3\/n=4\/n=5:=by omega
 rw[VY,al a,al b];rcases this with rfl | rfl | rfl | rfl | rfl<;>exact⟨_,rfl,by decide⟩
theorem aaN{α:Type}{xs:List α}{n:Nat}(h:n<xs.length):∃x,idx xs ((n:Nat):Int)=some x/\x∈xs/\xs[n]?=some x:=by
 refine⟨xs[n],?_,List.getElem_mem h,zF h⟩;rw[au];exact zF h
theorem Ll{e:af}(h:e.args.length=2):∃a b,e.args=[a,b]:=by
 cases d:e.args with
 | nil=>rw[d]at h;cases h
 | cons a r=>cases r with
  | nil=>rw[d]at h;cases h
  | cons b r=>cases r with
   | nil=>exact⟨a,b,rfl⟩
   | cons c r=>rw[d]at h;simp at h
theorem Ym{e:af}(h:e.args.length=3):∃a b c,e.args=[a,b,c]:=by
 cases f:e.args with
 | nil=>rw[f]at h;cases h
 | cons a r=>cases r with
  | nil=>rw[f]at h;cases h
  | cons b r=>cases r with
   | nil=>rw[f]at h;cases h
   | cons c r=>cases r with
    | nil=>exact⟨a,b,c,rfl⟩
    | cons d r=>rw[f]at h;simp at h
theorem af4{α:Type}(f:α->Nat){xs:List α}{x:α}(h:x∈xs):f x<=(xs.map f).sum:=by
 induction xs with
 | nil=>cases h
 | cons y ys ih=>
  simp only[List.map_cons,List.sum_cons];rcases bc.1 h with rfl | h
  ·omega
  ·have:=ih h;omega
theorem ae1(e:af):3<=dP e:=by rw[AX];omega
theorem EZ:∀(n:Nat),
  (∀e:af,siz e<n->yF e->dP e<=120->∃s,(bg n).1 e=some s/\s.length+4<=22*dP e) /\
  (∀xs:List af,siz xs<n->(∀x,x∈xs->yF x)->mQ xs<=120->∃s,(bg n).2.1 xs=some s/\s.length<=22*mQ xs) /\
  (∀(e:af) (b:Int),siz e+1<n->yF e->dP e<=120->∃s,(bg n).2.2 e b=some s/\s.length+2<=22*dP e)
 | 0=>⟨fun _ h=>absurd h (Nat.not_lt_zero _),fun _ h=>absurd h (Nat.not_lt_zero _),fun _ _ h=>absurd h (Nat.not_lt_zero _)⟩
 | n+1=>by
  obtain⟨ihT,ihL,ihA⟩:=EZ n;refine⟨fun e z hv y=>?_,fun xs z hv y=>?_,fun e b z hv y=>?_⟩
  ·show ∃s,vJ (bg n).1 (bg n).2.1 (bg n).2.2 e=some s/\_
   cases hv with
   | mk _ k g=>
   have K:=AX e;have X:=k.text;have hargs:=Q5 (e:=e);unfold vJ;cases G:(e.kind==1)with
   | true=>
    have:=k.num (eq_of_beq G);obtain⟨s,f,j,_⟩:=uU e.n (by omega) (by omega);exact⟨s,by simp only[ac,f,zA],by omega⟩
   | false=>
   cases L:(e.kind==2)with
   | true=>
    simp only[ac,aa];rw[dR (by simp;omega),zA,dR (by simp;omega),zA];exact⟨_,rfl,by simp;omega⟩
   | false=>
   cases M:(e.kind==3)with
   | true=>exact⟨e.text,rfl,by omega⟩
   | false=>
   cases k4:(e.kind==4)with
   | true=>
    obtain⟨s,f,j⟩:=ihL e.args (by omega) g (by omega);simp only[ac,aa,f,zA];rw[dR (by simp;omega),zA,dR (by simp;omega),zA];exact⟨_,rfl,by simp;omega⟩
   | false=>
   cases N:(e.kind==5)with
   | true=>
    obtain⟨s,f,j⟩:=ihL e.args (by omega) g (by omega);simp only[ac,aa,f,zA];rw[dR (by simp;omega),zA,dR (by simp;omega),zA,dR (by simp;omega),zA];exact⟨_,rfl,by simp;omega⟩
   | false=>
   cases H:(e.kind==7)with
   | true=>
    obtain⟨a,b,d⟩:=Ll (k.two (.inl (eq_of_beq H)));have l:mQ e.args=dP a+dP b:=by rw[d,jl];simp
    obtain⟨s,f,j⟩:=ihT a (by have:=kC (x:=a) (e:=e) (by rw[d];simp);omega) (g a (by rw[d];simp)) (by omega);obtain⟨t,m,A⟩:=ihT b (by have:=kC (x:=b) (e:=e) (by rw[d];simp);omega) (g b (by rw[d];simp)) (by omega);have p:idx e.args 0=some a:=by rw[d];rfl
    have q:idx e.args 1=some b:=by rw[d];rfl
    simp only[ac,aa,p,q,aH,f,m,zA];rw[dR (by simp;omega),zA,dR (by simp;omega),zA,dR (by simp;omega),zA,dR (by simp;omega),zA,dR (by simp;omega),zA];exact⟨_,rfl,by simp;omega⟩
   | false=>
   cases k9:(e.kind==9)with
   | true=>
    obtain⟨a,b,d⟩:=Ll (k.two (.inr (eq_of_beq k9)));have l:mQ e.args=dP a+dP b:=by rw[d,jl];simp
    obtain⟨s,f,j⟩:=ihT a (by have:=kC (x:=a) (e:=e) (by rw[d];simp);omega) (g a (by rw[d];simp)) (by omega);obtain⟨t,m,A⟩:=ihT b (by have:=kC (x:=b) (e:=e) (by rw[d];simp);omega) (g b (by rw[d];simp)) (by omega);have p:idx e.args 0=some a:=by rw[d];rfl
    have q:idx e.args 1=some b:=by rw[d];rfl
    simp only[ac,aa,p,q,aH,f,m,zA];rw[dR (by simp;omega),zA,dR (by simp;omega),zA,dR (by simp;omega),zA,dR (by simp;omega),zA,dR (by simp;omega),zA];exact⟨_,rfl,by simp;omega⟩
   | false=>
   cases I:(e.kind==8)with
   | true=>
    obtain⟨a,b,c,d⟩:=Ym (k.three (eq_of_beq I));have l:mQ e.args=dP a+(dP b+dP c):=by rw[d,jl];simp
    obtain⟨s,f,j⟩:=ihT a (by have:=kC (x:=a) (e:=e) (by rw[d];simp);omega) (g a (by rw[d];simp)) (by omega);obtain⟨t,m,A⟩:=ihT b (by have:=kC (x:=b) (e:=e) (by rw[d];simp);omega) (g b (by rw[d];simp)) (by omega);obtain⟨u,B,O⟩:=ihT c (by have:=kC (x:=c) (e:=e) (by rw[d];simp);omega) (g c (by rw[d];simp)) (by omega);have p:idx e.args 0=some a:=by rw[d];rfl
    have q:idx e.args 1=some b:=by rw[d];rfl
    have P:idx e.args 2=some c:=by rw[d];rfl
    simp only[ac,aa,p,q,P,aH,f,m,B,zA];rw[dR (by simp;omega),zA,dR (by simp;omega),zA,dR (by simp;omega),zA,dR (by simp;omega),zA,dR (by simp;omega),zA];exact⟨_,rfl,by simp;omega⟩
   | false=>
    have Q:e.kind=6:=by
     have Y:=k.k0;have Z:=k.k9;have n1:¬e.kind=1:=by simpa using G
     have n2:¬e.kind=2:=by simpa using L
     have n3:¬e.kind=3:=by simpa using M
     have n4:¬e.kind=4:=by simpa using k4
     have n5:¬e.kind=5:=by simpa using N
     have n7:¬e.kind=7:=by simpa using H
     have n8:¬e.kind=8:=by simpa using I
     have n9:¬e.kind=9:=by simpa using k9
     omega
    obtain⟨R,C,D⟩:=k.op Q;obtain⟨a,b,d⟩:=Ll R;have l:mQ e.args=dP a+dP b:=by rw[d,jl];simp
    have za:=kC (x:=a) (e:=e) (by rw[d];simp);have zb:=kC (x:=b) (e:=e) (by rw[d];simp);obtain⟨r,E,S,T⟩:=Jc e;obtain⟨s,f,j⟩:=ihA a 2 (by omega) (g a (by rw[d];simp)) (by omega);obtain⟨s',e1',l1'⟩:=ihA a r (by omega) (g a (by rw[d];simp)) (by omega);obtain⟨t,m,A⟩:=ihA b (w64 (r+1)) (by omega) (g b (by rw[d];simp)) (by omega);obtain⟨o,B,O⟩:=TV e.n C D;have p:idx e.args 0=some a:=by rw[d];rfl
    have q:idx e.args 1=some b:=by rw[d];rfl
    simp only[aa,p,q,aH,E,f,e1',m,B,zA];cases (r==1)with
    | true=>
     simp only[ac];rw[dR (by simp;omega),zA,dR (by simp;omega),zA,dR (by simp;omega),zA,dR (by simp;omega),zA];exact⟨_,rfl,by simp;omega⟩
    | false=>
     simp only[aa];rw[dR (by simp;omega),zA,dR (by simp;omega),zA,dR (by simp;omega),zA,dR (by simp;omega),zA];exact⟨_,rfl,by simp;omega⟩
  ·show ∃s,vK (bg n).1 (bg n).2.1 (bg n).2.2 xs=some s/\_
   unfold vK;have U:3*xs.length<=mQ xs:=by
    rw[jl];clear z hv y ihT ihL ihA;induction xs with
    | nil=>simp
    | cons x xs ih=>have:=ae1 x;simp only[List.map_cons,List.sum_cons,List.length_cons];omega
   have J:xs.length<lim:=by show xs.length<4611686018427387904;omega
   refine BH (fun (s:List Str) (i:Nat)=>((xs,s,(i:Int)):(List af)×(List Str)×Int)) xs (fun i s=>s.length=i/\lens s+4*i<=22*((xs.take i).map dP).sum) _ (fun i x s w v=>.inl ?_) (fun s v=>?_) [] ⟨rfl,by simp[lens]⟩
   ·have hi:=(zC.1 w).1;have F:=zG w;have V:dP x<=mQ xs:=by
     rw[jl];exact af4 dP F
    obtain⟨t,f,j⟩:=ihT x (by have:=VH F;omega) (hv x F) (by omega);refine⟨s++[t],?_,by simp[v.1],?_⟩
    ·simp only[dec_lt w,ac,au,w,zA,aH,f,dR (show s.length+([t]:List Str).length<=34359738368 by simp;omega),xg w J]
    ·have:=v.2;rw[RN,Lu dP w];omega
   ·have W:=v.2;rw[List.take_length,<- jl]at W;obtain⟨t,f,j⟩:=Wj s [44,32] (by rw[v.1];exact J) (by simp only[List.length_cons,List.length_nil];rw[v.1];omega);refine⟨t,by simp only[iJ,aa,f,zA],?_⟩;simp only[List.length_cons,List.length_nil]at j;rw[v.1]at j;omega
  ·show ∃s,E8 (bg n).1 (bg n).2.1 (bg n).2.2 e b=some s/\_
   unfold E8;obtain⟨s,f,j⟩:=ihT e (by omega) hv y;obtain⟨r,E,S,T⟩:=Jc e;simp only[aH,f,E,zA];cases decide (r<b)with
   | true=>
    simp only[ac];rw[dR (by simp;omega),zA,dR (by simp;omega),zA];exact⟨_,rfl,by simp;omega⟩
   | false=>exact⟨s,rfl,by omega⟩
theorem MR(e:af)(a:Fit B20 (.base .expr) e):∃s,iF e=some s/\s.length<=2640:=by
 obtain⟨v,b,c⟩:=JY e a;unfold iF;rw[aH,b,zA];cases v with
 | false=>exact⟨_,rfl,by simp⟩
 | true=>
  obtain⟨hv,d⟩:=c rfl;obtain⟨s,f,g⟩:=(EZ (siz e+1)).1 e (Nat.lt_succ_self _) hv d;refine⟨s,?_,by omega⟩;have:E5 e=some s:=f;simp only[aM,aa,this,zA]
end Go.Proofs.YtkebfkahdmddpaaGreatDoor
/- Plain laws: what is drawn is drawn, and is small. -/
namespace Go.Proofs.YtkebfkahdmddpaaGreatDoor
open Go.Abs Go.Proofs
def dF(c:bM):Prop:=0<=c.i/\(c.b.length:Int)<=1048576
theorem af7{X ρ σ:Type}{g:X->Option (X⊕ρ)}(pk:σ->X)(I:Nat->σ->Prop)(R:ρ->Prop)
  (d:∀n s,I n s->(∃s' m,m<n/\I m s'/\g (pk s)=some (.inl (pk s')))\/∃r,g (pk s)=some (.inr r)/\R r):∀n s,I n s->∃r,ak g (pk s)=some r/\R r:=by
 intro n;induction n using Nat.strongRecOn with
 | ind n ih=>
  intro s e;rcases d n s e with ⟨s',m,f,a,b⟩ | ⟨r,b,c⟩
  ·obtain⟨r,h,c⟩:=ih m f s' a;exact⟨r,by rw[aJ,b];exact h,c⟩
  ·exact⟨r,by rw[aJ,b],c⟩
theorem aaI(n:Int):0<=w64 ((BitVec.ofInt 64 n &&& BitVec.ofInt 64 255).toNat:Int)/\w64 ((BitVec.ofInt 64 n &&& BitVec.ofInt 64 255).toNat:Int)<=255:=by
 have h:(BitVec.ofInt 64 n &&& BitVec.ofInt 64 255).toNat<=255:=by
  rw[BitVec.toNat_and];exact Nat.le_trans Nat.and_le_right (by decide)
 rw[bK (by omega) (by omega)];omega
theorem GL{c:bM}(h:dF c):∃c' x,uh c=some (c',x)/\dF c'/\0<=x/\x<=255:=by
 obtain⟨a,d⟩:=h;unfold uh;by_cases hi:c.i<(c.b.length:Int)
 ·obtain⟨y,e,_⟩:=Zv a hi;rw[al hi,ac,e,zA];exact⟨_,_,rfl,⟨by show 0<=w64 (c.i+1);rw[bK (by omega) (by omega)];omega,d⟩,aaI _⟩
 ·rw[ae hi,aa];exact⟨_,_,rfl,⟨a,d⟩,aaI _⟩
theorem aav{x n:Int}(a:0<=x)(b:0<n):∃r,abL x n=some r/\0<=r/\r<n:=by
 unfold abL;rw[if_neg (by omega)];exact⟨_,rfl,Int.tmod_nonneg _ a,Int.tmod_lt_of_pos _ b⟩
theorem lm{c:bM}(h:dF c)(n:Int):∃c' x,bH c n=some (c',x)/\dF c'/\0<=x/\(0<n->x<n):=by
 unfold bH;by_cases l:n<=0
 ·rw[al l,ac];exact⟨c,0,rfl,h,by omega,fun hh=>by omega⟩
 rw[ae l,aa];by_cases m:n<=256
 ·rw[al m,ac];obtain⟨o,x,e,f,p,q⟩:=GL h;obtain⟨r,g,i,j⟩:=aav p (n:=n) (by omega);simp only[e,g,zA];exact⟨o,r,rfl,f,i,fun _=>j⟩
 ·rw[ae m,aa];obtain⟨o,a,e,f,A,B⟩:=GL h;obtain⟨C,b,g,s,D,E⟩:=GL f;obtain⟨F,d,t,u,G,H⟩:=GL s;obtain⟨v,k,w,k4,I,J⟩:=GL u;have y:w64 ((w64 ((w64 ((w64 (a*16777216))+(w64 (b*65536))))+(w64 (d*256))))+k)=a*16777216+b*65536+d*256+k:=by
   rw[bK (n:=a*16777216) (by omega) (by omega),bK (n:=b*65536) (by omega) (by omega),bK (n:=d*256) (by omega) (by omega),bK (n:=a*16777216+b*65536) (by omega) (by omega),bK (n:=a*16777216+b*65536+d*256) (by omega) (by omega),bK (by omega) (by omega)]
  obtain⟨r,z,i,j⟩:=aav (x:=a*16777216+b*65536+d*256+k) (n:=n) (by omega) (by omega);simp only[e,g,t,w,y,z,zA];exact⟨v,r,rfl,k4,i,fun _=>j⟩
theorem BB{c:bM}(h:dF c)(n:Int):∃c' b,pR c n=some (c',b)/\dF c':=by
 obtain⟨c',x,e,k,_⟩:=lm h n;unfold pR;rw[e];exact⟨c',_,rfl,k⟩
theorem aaz{c:bM}(h:dF c)(xs:List Str)(a:xs≠[]):∃c' s,dK c xs=some (c',s)/\dF c'/\s∈xs:=by
 have f:0<xs.length:=List.length_pos_iff.2 a;obtain⟨c',x,e,k,p,q⟩:=lm h xs.length;obtain⟨y,b,d⟩:=Zv p (q (by omega));unfold dK;simp only[e,b,zA];exact⟨c',y,rfl,k,zG d⟩
theorem Y7{c:bM}(h:dF c)(xs:List Int)(a:xs≠[]):∃c' s,mZ c xs=some (c',s)/\dF c'/\s∈xs:=by
 have f:0<xs.length:=List.length_pos_iff.2 a;obtain⟨c',x,e,k,p,q⟩:=lm h xs.length;obtain⟨y,b,d⟩:=Zv p (q (by omega));unfold mZ;simp only[e,b,zA];exact⟨c',y,rfl,k,zG d⟩
theorem aiB(a:List Int)(h:(a.length:Int)<=1048576):∃c,Ud a=some c/\dF c:=by
 unfold Ud;refine af7 (fun (s:Int×Nat)=>((a,s.1,(s.2:Int)):List Int×Int×Int)) (fun n s=>n+s.2=a.length) dF (fun n s e=>?_) a.length (_,0) (by simp);by_cases hi:s.2<a.length
 ·have b:=zF hi;simp only[dec_lt b,ac];by_cases d:(s.2:Int)<4000
  ·simp only[al d,ac,au,b,zA,xg b (NV h)];exact .inl ⟨(_,s.2+1),n-1,by omega,by simp only;omega,rfl⟩
  ·simp only[ae d,aa];exact .inr ⟨_,rfl,by simp[dF],h⟩
 ·have:decide ((s.2:Int)<(a.length:Int))=false:=by simp;omega
  simp only[this,aa];exact .inr ⟨_,rfl,by simp[dF],h⟩
theorem qI{n:Int}(a:-1000000000<=n)(b:n<=1000000000):fH B20 (.int .i64 n):=int0 (acS a b)
theorem abg{s:Str}(h:s.length<=1048576):fH B20 (.str s):=aaF (by omega)
theorem sZ{X ρ σ:Type}{g:X->Option (X⊕ρ)}(pk:σ->Nat->X)(n:Nat)(I:Nat->σ->Prop)(R:ρ->Prop)
  (d:∀i s,i<n->I i s->∃s',g (pk s i)=some (.inl (pk s' (i+1)))/\I (i+1) s') (f:∀s,I n s->∃r,g (pk s n)=some (.inr r)/\R r) (s:σ) (h:I 0 s):∃r,ak g (pk s 0)=some r/\R r:=by
 have key:∀(k i:Nat) (s:σ),n=i+k->I i s->∃r,ak g (pk s i)=some r/\R r:=by
  intro k;induction k with
  | zero=>
   intro i s hi a;have:i=n:=by omega
   subst this;obtain⟨r,e,b⟩:=f s a;exact⟨r,by rw[aJ,e],b⟩
  | succ k ih=>
   intro i s hi a;obtain⟨s',e,c⟩:=d i s (by omega) a;obtain⟨r,e',b⟩:=ih (i+1) s' (by omega) c;exact⟨r,by rw[aJ,e];exact e',b⟩
 exact key n 0 s (by omega) h
theorem cnt_lt{i n:Nat}(h:i<n):decide ((i:Int)<(n:Int))=true:=by simpa using h
theorem aaX{i n:Nat}(h:i<n)(a:n<=1048576):w64 ((i:Int)+1)=((i+1:Nat):Int):=by
 rw[bK (by omega) (by omega)];omega
theorem D5{n:Int}(h:0<=n):∃m:Nat,n=(m:Int):=⟨n.toNat,by omega⟩
end Go.Proofs.YtkebfkahdmddpaaGreatDoor
/- Plain laws: drawing, step by step; drawn expressions and texts. Plain laws: drawn cells. -/
namespace Go.Proofs.YtkebfkahdmddpaaGreatDoor
open Go.Abs Go.Proofs
def Dr{α:Type}(x:Option (bM×α))(P:α->Prop):Prop:=∃c y,x=some (c,y)/\dF c/\P y
theorem Dr.bind{α β:Type}{x:Option (bM×α)}{P:α->Prop}{f:bM×α->Option (bM×β)}{Q:β->Prop}(a:Dr x P)(b:∀c y,dF c->P y->Dr (f (c,y)) Q):Dr (x.bind f) Q:=by
 obtain⟨c,y,e,k,p⟩:=a;rw[e];exact b c y k p
theorem Dr.pbind{α β:Type}{x:Option α}{P:α->Prop}{f:α->Option (bM×β)}{Q:β->Prop}(a:∃y,x=some y/\P y)(b:∀y,P y->Dr (f y) Q):Dr (x.bind f) Q:=by
 obtain⟨y,e,p⟩:=a;rw[e];exact b y p
theorem Dr.gd{n:Nat}{β:Type}{f:Unit->Option (bM×β)}{Q:β->Prop}(h:n<=34359738368)(a:Dr (f ()) Q):Dr ((gd n).bind f) Q:=by
 rw[dR h];exact a
theorem Dr.bif{β:Type}{b:Bool}{x y:Option (bM×β)}{Q:β->Prop}(a:b=true->Dr x Q)(c:b=false->Dr y Q):Dr (bif b then x else y) Q:=by
 cases b with
 | true=>exact a rfl
 | false=>exact c rfl
theorem Dr.ret{β:Type}{c:bM}{y:β}{Q:β->Prop}(h:dF c)(a:Q y):Dr (some (c,y)) Q:=⟨c,y,rfl,h,a⟩
theorem Dr.of{β:Type}{x:Option (bM×β)}{Q:β->Prop}(h:∃r,x=some r/\dF r.1/\Q r.2):Dr x Q:=by
 obtain⟨⟨c,y⟩,e,k,q⟩:=h;exact⟨c,y,e,k,q⟩
theorem Dr.mono{β:Type}{x:Option (bM×β)}{P Q:β->Prop}(h:Dr x P)(a:∀y,P y->Q y):Dr x Q:=by
 obtain⟨c,y,e,k,p⟩:=h;exact⟨c,y,e,k,a y p⟩
theorem dZ{c:bM}(h:dF c)(n:Int):Dr (bH c n) fun x=>0<=x/\(0<n->x<n):=by
 obtain⟨c',x,e,k,p,q⟩:=lm h n;exact⟨c',x,e,k,p,q⟩
theorem afW{c:bM}(h:dF c)(n:Int):Dr (pR c n) fun _=>True:=by
 obtain⟨c',x,e,k⟩:=BB h n;exact⟨c',x,e,k,trivial⟩
theorem fJ{c:bM}(h:dF c)(xs:List Str)(a:xs≠[]):Dr (dK c xs) fun s=>s∈xs:=by
 obtain⟨c',x,e,k,p⟩:=aaz h xs a;exact⟨c',x,e,k,p⟩
theorem DV{c:bM}(h:dF c)(xs:List Int)(a:xs≠[]):Dr (mZ c xs) fun s=>s∈xs:=by
 obtain⟨c',x,e,k,p⟩:=Y7 h xs a;exact⟨c',x,e,k,p⟩
abbrev eH(e:af):Prop:=Fit B20 (.base .expr) e
theorem mP{k n:Int}{s:Str}{xs:List af}(a:fH B20 (.int .i64 k))(b:fH B20 (.int .i64 n))(c:(s.length:Int)<=1048576)(d:(xs.length:Int)<=1048576)(e:∀x,x∈xs->eH x):eH (af.mk k n s xs):=by
 show Fit B20 (.base .expr) _
 rw[Gu];exact⟨a,b,aaF c,WZ d e⟩
theorem afZ{n:Int}(a:-1000000000<=n)(b:n<=1000000000):eH (af.mk 1 n [] []):=mP (qI (by omega) (by omega)) (qI a b) (by simp) (by simp) fun x c=>(by cases c)
theorem FY{k n:Int}{s:Str}(a:-1000000000<=k)(b:k<=1000000000)(c:-1000000000<=n)(d:n<=1000000000)(f:s.length<=1000):eH (af.mk k n s []):=mP (qI a b) (qI c d) (by omega) (by simp) fun x e=>(by cases e)
def GU(b:List Str):Prop:=b≠[]/\∀s,s∈b->s.length<=20
theorem jV{n:Int}(a:0<=n)(b:n<=1000):∃e,jE n=some e/\eH e:=⟨_,rfl,afZ (by omega) (by omega)⟩
theorem V9{s:Str}(h:s.length<=20):∃e,zS s=some e/\eH e:=⟨_,rfl,FY (by omega) (by omega) (by omega) (by omega) (by omega)⟩
theorem iD{s:Str}{xs:List af}(h:s.length<=20)(b:xs.length<=10)(a:∀x,x∈xs->eH x):∃e,kF s xs=some e/\eH e:=⟨_,rfl,mP (qI (by omega) (by omega)) (qI (by omega) (by omega)) (by omega) (by omega) a⟩
theorem aby{n:Int}{a b:af}(g:0<=n)(h:n<=1000)(d:eH a)(f:eH b):∃e,iw n a b=some e/\eH e:=by
 refine⟨_,rfl,mP (qI (by omega) (by omega)) (qI (by omega) (by omega)) (by simp) (by simp) fun x c=>?_⟩;simp only[aH,bc,List.not_mem_nil,or_false]at c;rcases c with rfl | rfl
 ·exact d
 ·exact f
theorem aaH{c:bM}{b:List Str}(h:dF c)(i:GU b):Dr (zU c b) eH:=by
 unfold zU;simp only[aH];refine Dr.bind (dZ h 5) fun l x f n=>?_
 refine Dr.bif (fun _=>?_) fun _=>?_
 ·refine Dr.bind (fJ f _ (by simp)) fun j s d a=>.ret d (FY (by omega) (by omega) (by omega) (by omega) ?_)
  simp at a;rcases a with rfl | rfl | rfl | rfl<;>simp
 have num:Dr ((bH l 6).bind fun k=>(jE k.2).bind fun m=>some (k.1,m)) eH:=by
  refine Dr.bind (dZ f 6) fun j x d a=>?_
  have:=a.2 (by omega);exact Dr.pbind (jV a.1 (by omega)) fun e g=>.ret d g
 refine Dr.bif (fun _=>num) fun _=>Dr.bif (fun _=>num) fun _=>?_
 refine Dr.bind (fJ f _ i.1) fun j s d a=>?_
 exact Dr.pbind (V9 (i.2 s a)) fun e g=>.ret d g
theorem mem_set{α:Type}{xs:List α}{i:Nat}{x y:α}(h:y∈xs.set i x):y∈xs\/y=x:=by
 rcases List.mem_or_eq_of_mem_set h with h | h
 ·exact .inl h
 ·exact .inr h
theorem KN{c:bM}{b:List Str}(h:dF c)(o:GU b):Dr (sG c b) eH:=by
 unfold sG;simp only[aH];refine Dr.bind (dZ h 4) fun p n q l=>?_
 have H:=l.2 (by omega);obtain⟨m,rfl⟩:=D5 l.1;refine Dr.of (sZ (fun (s:bM×List af) (i:Nat)=>((s.1.b,s.1.i,s.1.h,b,0,0,[],[],4,0,[],s.2,(m:Int),(i:Int)):(List Int)×Int×Int×(List Str)×Int×Int×Str×(List af)×Int×Int×Str×(List af)×Int×Int)) m
  (fun i s=>dF s.1/\s.2.length=i/\∀x,x∈s.2->eH x) (fun (r:bM×af)=>dF r.1/\eH r.2) (fun i s hi j=>?_) (fun s j=>?_) (p,[]) ⟨q,rfl,fun x d=>(by cases d)⟩)
 ·obtain⟨k,g,d⟩:=j;obtain⟨I,J,t,u,v,w⟩:=lm k 5;have:=w (by omega);obtain⟨e,y,z⟩:=jV v (by omega);obtain⟨A,B,C,k4⟩:=BB u 4;have hmem:∀x,x∈s.2++[e]->eH x:=fun x a=>by
   rcases List.mem_append.1 a with a | a
   ·exact d x a
   ·rw[List.mem_singleton.1 a];exact z
  simp only[cnt_lt hi,ac,t,y,C,zA,dR (show s.2.length+[e].length<=34359738368 by simp;omega),aaX hi (show m<=1048576 by omega)];cases B with
  | false=>exact⟨(A,s.2++[e]),rfl,k4,by simp[g],hmem⟩
  | true=>
   obtain⟨D,f,E,F,G⟩:=aaH k4 o;have hget:(s.2++[e])[i]?=some e:=by rw[<- g];simp
   simp only[ac,E,zA,au,hget,aD];refine⟨(D,(s.2++[e]).set i f),rfl,F,by simp[g],fun x a=>?_⟩;rcases mem_set a with a | rfl
   ·exact hmem x a
   ·exact G
 ·obtain⟨k,g,d⟩:=j;exact⟨(s.1,af.mk 4 0 [] s.2),by simp only[iJ,aa],k,mP (qI (by omega) (by omega)) (qI (by omega) (by omega)) (by simp) (by omega) d⟩
theorem nP{c:bM}{a b:af}(h:dF c)(e:eH a)(f:eH b):Dr (jb c a b) eH:=by
 unfold jb;simp only[aH];exact Dr.bind (afW h 2) fun g x d _=>Dr.bif (fun _=>.ret d e) fun _=>.ret d f
theorem IV{c:bM}(h:dF c):Dr (oV c) eH:=by
 unfold oV;refine Dr.bind (fJ h _ (by simp)) fun d s b a=>.ret b (FY (by omega) (by omega) (by omega) (by omega) ?_)
 simp at a;rcases a with rfl | rfl | rfl | rfl<;>simp
theorem Ls{c:bM}(h:dF c):Dr (rO c) eH:=by
 unfold rO;simp only[aH];refine Dr.bind (dZ h 4) fun q n t l=>?_
 have J:=l.2 (by omega);obtain⟨m,rfl⟩:=D5 l.1;refine Dr.of (sZ (fun (s:bM×List af) (i:Nat)=>((s.1.b,s.1.i,s.1.h,0,0,[],[],4,0,[],s.2,(m:Int),(i:Int)):(List Int)×Int×Int×Int×Int×Str×(List af)×Int×Int×Str×(List af)×Int×Int)) m
  (fun i s=>dF s.1/\s.2.length=i/\∀x,x∈s.2->eH x) (fun (r:bM×af)=>dF r.1/\eH r.2) (fun i s hi g=>?_) (fun s g=>?_) (q,[]) ⟨t,rfl,fun x a=>(by cases a)⟩)
 ·obtain⟨j,o,a⟩:=g;obtain⟨K,L,u,v,w,z⟩:=lm j 3;have:=z (by omega);obtain⟨e,A,k⟩:=jV w (by omega);obtain⟨B,M,C,k4,D,E⟩:=lm v 4;have:=E (by omega);obtain⟨f,F,G⟩:=jV D (by omega);simp only[cnt_lt hi,ac,u,A,C,F,zA,dR (show s.2.length+[af.mk 4 0 [] [e,f]].length<=34359738368 by simp;omega),aaX hi (show m<=1048576 by omega)];refine⟨(B,s.2++[af.mk 4 0 [] [e,f]]),rfl,k4,by simp[o],fun x d=>?_⟩;rcases List.mem_append.1 d with d | d
  ·exact a x d
  ·rw[List.mem_singleton.1 d];refine mP (qI (by omega) (by omega)) (qI (by omega) (by omega)) (by simp) (by simp) fun y p=>?_
   simp only[bc,List.not_mem_nil,or_false]at p;rcases p with rfl | rfl
   ·exact k
   ·exact G
 ·obtain⟨j,o,a⟩:=g;have H:eH (af.mk 4 0 [] s.2):=mP (qI (by omega) (by omega)) (qI (by omega) (by omega)) (by simp) (by omega) a;obtain⟨e,I,k⟩:=iD (s:=[116,97,98,108,101]) (xs:=[af.mk 2 0 [97,32,98] [],af.mk 4 0 [] s.2]) (by simp) (by simp) fun x a=>by
   simp only[bc,List.not_mem_nil,or_false]at a;rcases a with rfl | rfl
   ·exact FY (by omega) (by omega) (by omega) (by omega) (by simp)
   ·exact H
  exact⟨(s.1,e),by simp only[iJ,aa,I,zA],j,k⟩
theorem KH{a:af}(b:eH a):∀x,x∈[a]->eH x:=fun x c=>by rw[List.mem_singleton.1 c];exact b
theorem KA{a b:af}(d:eH a)(e:eH b):∀x,x∈[a,b]->eH x:=fun x c=>by
 simp only[bc,List.not_mem_nil,or_false]at c;rcases c with rfl | rfl
 ·exact d
 ·exact e
theorem G6{a b c:af}(e:eH a)(f:eH b)(g:eH c):∀x,x∈[a,b,c]->eH x:=fun x d=>by
 simp only[bc,List.not_mem_nil,or_false]at d;rcases d with rfl | rfl | rfl
 ·exact e
 ·exact f
 ·exact g
theorem W9:∀(n:Nat) {a:bM} {b:List Str} (c:Int),dF a->GU b->b.length+2*c.toNat<=1000->c<=n->1<=n->c<=10->Dr (lG n a b c) eH
 | 0,a,b,c,_,_,_,_,h,_=>absurd h (by omega)
 | n+1,a,b,c,h,p,hl,hc,_,h10=>by
  show Dr (Hy (lG n) a b c) eH
  unfold Hy;simp only[aH];refine Dr.bif (fun _=>Dr.bind (aaH h p) fun U x l V=>.ret l V) fun K=>?_
  have K:2<=c:=by simp at K;exact K
  have H:w64 (c-1)=c-1:=bK (by omega) (by omega);rw[H];have ih:∀ {a:bM} {b':List Str},dF a->GU b'->b'.length<=b.length+2->Dr (lG n a b' (c-1)) eH:=fun L M hl'=>W9 n (c-1) L M (by omega) (by omega) (by omega) (by omega)
  have ihb:∀ {a:bM},dF a->Dr (lG n a b (c-1)) eH:=fun L=>ih L p (by omega)
  obtain⟨I,N,hb0m⟩:∃I,idx b 0=some I/\I∈b:=by
   cases O:b with
   | nil=>exact absurd O p.1
   | cons x r=>exact⟨x,rfl,aw⟩
  have names:∀s,s∈[[117],[118],I]->s.length<=20:=fun s W=>by
   simp only[bc,List.not_mem_nil,or_false]at W;rcases W with rfl | rfl | rfl
   ·simp
   ·simp
   ·exact p.2 _ hb0m
  simp only[N,zA];refine Dr.bind (dZ h 13) fun U x l V=>?_
  have op:Dr ((bH U 5).bind fun X=>(lG n X.1 b (c-1)).bind fun Y=>(lG n Y.1 b (c-1)).bind fun Z=>(iw (w64 (1+X.2)) Y.2 Z.2).bind fun P=>some (Z.1,P)) eH:=by
   refine Dr.bind (dZ l 5) fun q y f d=>Dr.bind (ihb f) fun D u i g=>Dr.bind (ihb i) fun B v k4 j=>?_
   have:=d.2 (by omega);have H:w64 (1+y)=1+y:=bK (by omega) (by omega);show Dr ((iw (w64 (1+y)) u v).bind fun P=>some (B,P)) eH
   rw[H];exact Dr.pbind (aby (by omega) (by omega) g j) fun e m=>.ret k4 m
  refine Dr.bif (fun _=>op) fun _=>Dr.bif (fun _=>op) fun _=>Dr.bif (fun _=>?_) fun _=>Dr.bif (fun _=>?_) fun _=>Dr.bif (fun _=>?_) fun _=>Dr.bif (fun _=>?_) fun _=>
   Dr.bif (fun _=>?_) fun _=>Dr.bif (fun _=>?_) fun _=>Dr.bif (fun _=>?_) fun _=>Dr.bif (fun _=>?_) fun _=>Dr.bif (fun _=>?_) fun _=>Dr.bif (fun _=>?_) fun _=>?_
  ·refine Dr.bind (fJ l _ (by simp)) fun q s f d=>Dr.bind (ihb f) fun D u i g=>Dr.gd (by simp;omega) ?_
   have ls:=names s d;refine Dr.bind (ih i ⟨by simp,fun t o=>?_⟩ (by rw[a7];simp only[List.length_cons,List.length_nil];omega)) fun B v k4 j=>.ret k4 (mP (qI (by omega) (by omega)) (qI (by omega) (by omega)) (by show (s.length:Int)<=_;omega) (by simp) (KA g j))
   rcases List.mem_append.1 o with o | o
   ·rw[List.mem_singleton.1 o];exact ls
   ·exact p.2 t o
  ·exact Dr.bind (ihb l) fun q u f d=>Dr.bind (ihb f) fun D v i g=>Dr.bind (ihb i) fun B w k4 j=>.ret k4 (mP (qI (by omega) (by omega)) (qI (by omega) (by omega)) (by simp) (by simp) (G6 d g j))
  ·refine Dr.bind (fJ l _ (by simp)) fun q s f d=>Dr.bind (KN f p) fun D u i g=>Dr.gd (by simp;omega) ?_
   have ls:=names s d;refine Dr.bind (ih i ⟨by simp,fun t o=>?_⟩ (by rw[a7];simp only[List.length_cons,List.length_nil];omega)) fun B v k4 j=>.ret k4 (mP (qI (by omega) (by omega)) (qI (by omega) (by omega)) (by show (s.length:Int)<=_;omega) (by simp) (KA g j))
   rcases List.mem_append.1 o with o | o
   ·simp only[bc,List.not_mem_nil,or_false,or_self]at o;rw[o];exact ls
   ·exact p.2 t o
  ·exact Dr.bind (KN l p) fun q u f d=>.ret f d
  ·refine Dr.bind (fJ l _ (by simp)) fun q s f d=>Dr.bind (KN f p) fun D u i g=>Dr.bind (ihb i) fun B v k4 j=>Dr.bind (nP k4 g j) fun J w C A=>?_
   refine Dr.pbind (iD ?_ (by simp) (KH A)) fun e m=>.ret C m
   simp at d;rcases d with rfl | rfl<;>simp
  ·refine Dr.bind (fJ l _ (by simp)) fun q s f d=>Dr.bind (dZ f 4) fun D y i g=>?_
   have:=g.2 (by omega);refine Dr.pbind (jV g.1 (by omega)) fun Q k=>Dr.bind (KN i p) fun B u k4 j=>Dr.bind (dZ k4 9) fun J z C A=>?_
   have:=A.2 (by omega);refine Dr.pbind (jV A.1 (by omega)) fun e2 F=>Dr.bind (dZ C 4) fun R z6 G E=>?_
   have:=E.2 (by omega);refine Dr.pbind (jV E.1 (by omega)) fun e3 S=>Dr.pbind (iD (by simp) (by simp) (KA F S)) fun e4 T=>Dr.bind (nP G j T) fun c7 w k7 p7=>?_
   refine Dr.pbind (iD ?_ (by simp) (KA k p7)) fun e m=>.ret k7 m
   simp at d;rcases d with rfl | rfl | rfl | rfl<;>simp
  ·refine Dr.bind (IV l) fun q s f d=>Dr.bind (dZ f 3) fun D y i g=>?_
   have:=g.2 (by omega);refine Dr.pbind (jV g.1 (by omega)) fun Q k=>Dr.bind (Ls i) fun B u k4 j=>Dr.bind (ihb k4) fun J v C A=>Dr.bind (nP C j A) fun R w G E=>?_
   exact Dr.pbind (iD (by simp) (by simp) (G6 d k E)) fun e m=>.ret G m
  ·refine Dr.bind (IV l) fun q s f d=>Dr.bind (IV f) fun D y i g=>Dr.bind (Ls i) fun B u k4 j=>Dr.bind (ihb k4) fun J v C A=>Dr.bind (nP C j A) fun R w G E=>?_
   exact Dr.pbind (iD (by simp) (by simp) (G6 d g E)) fun e m=>.ret G m
  ·refine Dr.bind (Ls l) fun B u k4 j=>Dr.bind (ihb k4) fun J v C A=>Dr.bind (nP C j A) fun R w G E=>?_
   exact Dr.pbind (iD (by simp) (by simp) (KH E)) fun e m=>.ret G m
  ·refine Dr.bind (dZ l 6) fun q y f d=>?_
   have:=d.2 (by omega);have H:w64 (1+y)=1+y:=bK (by omega) (by omega);show Dr ((jE (w64 (1+y))).bind _) eH
   rw[H];refine Dr.pbind (jV (by omega) (by omega)) fun Q k=>?_
   exact Dr.pbind (iD (by simp) (by simp) (KH k)) fun e m=>.ret f m
  ·refine Dr.pbind (iD (by simp) (by simp) fun x hx=>(by cases hx)) fun Q k=>Dr.bind (fJ l _ (by simp)) fun q s f d=>?_
   refine Dr.pbind (iD (by simp) (by simp) (KH (FY (by omega) (by omega) (by omega) (by omega) ?_))) fun e2 F=>Dr.bind (nP f k F) fun D w i g=>.ret i g
   simp at d;rcases d with rfl | rfl | rfl<;>simp
theorem aai(n:Int):1<=siz n:=by
 cases n with
 | ofNat a=>show 1<=SizeOf.sizeOf (Int.ofNat a);rw[Int.ofNat.sizeOf_spec];omega
 | negSucc a=>show 1<=SizeOf.sizeOf (Int.negSucc a);rw[Int.negSucc.sizeOf_spec];omega
theorem aah{α:Type}[SizeOf α](l:List α):1<=siz l:=by
 cases l with
 | nil=>simp[siz]
 | cons x r=>simp only[siz];rw[List.cons.sizeOf_spec];omega
theorem afv(c:bM):4<=siz c:=by
 cases c with
 | mk b i h=>
  have a:=aah b;have d:=aai i;have e:=aai h;simp only[siz]at *;rw[bM.mk.sizeOf_spec];omega
theorem af6{a:bM}{b:List Str}(c:Int)(h:dF a)(d:GU b)(e:b.length<=100)(f:c<=5):Dr (MG a b c) eH:=by
 have g:=afv a;have i:=aah b;exact W9 (siz a+siz b+1) c h d (by omega) (by omega) (by omega) (by omega)
theorem aeZ{α:Type}(xs:List α)(a b:Nat)(h:a<=b)(c:b<=xs.length):eff.cutL xs (some (a:Int)) (some (b:Int))=some ((xs.take b).drop a):=by
 unfold eff.cutL;simp only[Option.getD_some];rw[if_pos ⟨by omega,by omega,by omega⟩];simp
theorem Pm(a:Str)(b:Int)(h:a.length<=100000):∃l,jv a b=some l/\l.length<=a.length+1/\1<=l.length/\∀s,s∈l->s.length<=a.length:=by
 unfold jv;refine sZ (fun (s:List Str×Nat) (i:Nat)=>((a,b,s.1,(s.2:Int),(i:Int)):Str×Int×(List Str)×Int×Int)) (a.length+1) (fun i s=>s.1.length<=i/\s.2<=i/\(a.length<i->1<=s.1.length)/\∀x,x∈s.1->x.length<=a.length) _ (fun i s hi j=>?_) (fun s j=>?_) ([],0) ⟨az _,az _,fun h=>absurd h (by omega),fun x k=>(by cases k)⟩
 ·obtain⟨f,m,n,g⟩:=j;have c:decide ((i:Int)<=(a.length:Int))=true:=by simp;omega
  have o:w64 ((i:Int)+1)=((i+1:Nat):Int):=by rw[bK (by omega) (by omega)];omega
  have hmem:∀y,y∈s.1++([(a.take i).drop s.2]:List Str)->y.length<=a.length:=fun y d=>by
   rcases List.mem_append.1 d with d | d
   ·exact g y d
   ·rw[List.mem_singleton.1 d,List.length_drop,ba];omega
  have p:gd (s.1.length+([(a.take i).drop s.2]:List Str).length)=some ():=dR (by simp;omega);simp only[c,ac,aeZ a s.2 i m (by omega),zA,p,o];by_cases q:i=a.length
  ·have e:((i:Int)==(a.length:Int))=true:=by simp;omega
   rw[e,ac];exact⟨(s.1++[(a.take i).drop s.2],i+1),rfl,by simp;exact f,by omega,fun _=>by simp,hmem⟩
  ·have e:((i:Int)==(a.length:Int))=false:=by simp;omega
   have k:=zF (show i<a.length by omega);rw[e,aa];simp only[au,k,zA];cases ((a[i].toNat:Int)==b)with
   | true=>exact⟨(s.1++[(a.take i).drop s.2],i+1),rfl,by simp;exact f,by omega,fun _=>by simp,hmem⟩
   | false=>exact⟨(s.1,s.2),rfl,by simp only;omega,by simp only;omega,fun h=>absurd h (by omega),g⟩
 ·obtain⟨f,m,n,g⟩:=j;have c:decide (((a.length+1:Nat):Int)<=(a.length:Int))=false:=by simp;omega
  exact⟨s.1,by simp only[c,aa],f,n (by omega),g⟩
theorem abd{c:bM}(h:dF c)(b:Str)(l:List Str)(p:b.length<=100000)(e:l≠[])(f:∀s,s∈l->s.length<=100):Dr (Bl c b l) fun s=>s.length<=b.length+100:=by
 unfold Bl;have g:w64 ((b.length:Int)+1)=(b.length:Int)+1:=bK (by omega) (by omega);rw[g];refine Dr.bind (dZ h _) fun q x i d=>Dr.bind (dZ i 6) fun r y a t=>?_
 have u:=d.2 (by omega);obtain⟨m,rfl⟩:=D5 d.1;have j:=aaW b m (by omega);have k:=SI b m (by omega);simp only[j,k,zA];refine Dr.bif (fun _=>?_) fun _=>Dr.bif (fun _=>.ret a ?_) fun _=>.ret a (by omega)
 ·refine Dr.bind (fJ a l e) fun v s n o=>?_
  have:=f s o;refine Dr.gd (by simp only[ba];omega) (Dr.gd (by simp only[a7,ba,List.length_drop];omega) (.ret n ?_));simp only[a7,ba,List.length_drop];omega
 ·rw[ba];omega
theorem agw{c:bM}(h:dF c):Dr (EX c) fun s=>s.length<=600:=by
 unfold EX;refine Dr.bind (fJ h _ (by simp)) fun W s G B=>Dr.bind (dZ G 4) fun H n I C=>?_
 have X:=C.2 (by omega);obtain⟨m,rfl⟩:=D5 C.1;have o:s.length<=5:=by
  simp at B;rcases B with rfl | rfl | rfl | rfl<;>simp
 obtain⟨l,J,Y,Z,_⟩:=Pm s 32 (by omega);simp only[J,zA];refine Dr.of (sZ (fun (z:bM×Str) (i:Nat)=>((z.1.b,z.1.i,z.1.h,z.2,(m:Int),(l.length:Int),(i:Int)):(List Int)×Int×Int×Str×Int×Int×Int)) m
  (fun i z=>dF z.1/\z.2.length<=5+130*i) (fun (r:bM×Str)=>dF r.1/\r.2.length<=600) (fun i z hi p=>?_) (fun z p=>?_) (H,s) ⟨I,by omega⟩)
 ·obtain⟨q,K⟩:=p;simp only[cnt_lt hi,ac];have:=sZ (g:=fun (a:(List Int)×Int×Int×Str×Int×Int×Int×(List Str)×Int)=>
    bif (decide (a.2.2.2.2.2.2.2.2<a.2.2.2.2.2.1))then
     (bH (bM.mk a.1 a.2.1 a.2.2.1) 4).bind fun k=>
     (dM k.2).bind fun D=>
     (gd (a.2.2.2.2.2.2.2.1.length+([D]:List Str).length)).bind fun _=>
     some (.inl (k.1.b,k.1.i,k.1.h,a.2.2.2.1,a.2.2.2.2.1,a.2.2.2.2.2.1,a.2.2.2.2.2.2.1,a.2.2.2.2.2.2.2.1++([D]:List Str),w64 (a.2.2.2.2.2.2.2.2+1)))
    else
     (
      (gd (a.2.2.2.1.length+[59,32].length)).bind fun _=>
      (Fh a.2.2.2.2.2.2.2.1 [32]).bind fun E=>
      (gd ((a.2.2.2.1++[59,32]).length+E.length)).bind fun _=>
      some ((.inl (a.1,a.2.1,a.2.2.1,(a.2.2.2.1++[59,32])++E,a.2.2.2.2.1,a.2.2.2.2.2.1,w64 (a.2.2.2.2.2.2.1+1))):((List Int)×Int×Int×Str×Int×Int×Int)⊕(bM×Str))
     ).bind fun r=>some (.inr r)) (fun (y:bM×List Str) (j:Nat)=>((y.1.b,y.1.i,y.1.h,z.2,(m:Int),(l.length:Int),(i:Int),y.2,(j:Int)):(List Int)×Int×Int×Str×Int×Int×Int×(List Str)×Int)) l.length
    (fun j y=>dF y.1/\y.2.length=j/\lens y.2<=19*j) (fun r=>∃z':bM×Str,r=.inl (z'.1.b,z'.1.i,z'.1.h,z'.2,(m:Int),(l.length:Int),((i+1:Nat):Int))/\dF z'.1/\z'.2.length<=5+130*(i+1)) (fun j y F u=>?_) (fun y u=>?_) (z.1,[]) ⟨q,rfl,by simp[lens]⟩
  ·obtain⟨r,e,z',rfl,L,M⟩:=this;exact⟨z',e,L,M⟩
  ·obtain⟨d,f,v⟩:=u;obtain⟨w,N,x,k4,O,P⟩:=lm d 4;have:=P (by omega);obtain⟨t,A,Q,_⟩:=uU N O (by omega);simp only[cnt_lt F,ac,x,A,zA,dR (show y.2.length+([t]:List Str).length<=34359738368 by simp;omega),aaX F (show l.length<=1048576 by omega)];exact⟨(w,y.2++[t]),rfl,k4,by simp[f],by rw[RN];omega⟩
  ·obtain⟨d,f,v⟩:=u;obtain⟨t,R,S⟩:=Wj y.2 [32] (by show y.2.length<4611686018427387904;omega) (by simp only[List.length_cons,List.length_nil];omega);simp only[List.length_cons,List.length_nil]at S;simp only[iJ,aa,R,zA,aaX hi (show m<=1048576 by omega)];rw[dR (by simp;omega),zA,dR (by simp;omega),zA,zA];exact⟨_,rfl,(y.1,(z.2++[59,32])++t),rfl,d,by simp;omega⟩
 ·obtain⟨q,K⟩:=p;simp only[iJ,aa];obtain⟨w,T,x,k4⟩:=BB q 12;simp only[x,zA];cases T with
  | false=>exact⟨(w,z.2),rfl,k4,by show z.2.length<=600;omega⟩
  | true=>
   obtain⟨U,t,A,V,Q⟩:=abd k4 z.2 ([[59],[32],[120],[59,32,49],[45]]:List Str) (by omega) (by simp) (fun s o=>by
    simp at o;rcases o with rfl | rfl | rfl | rfl | rfl<;>simp)
   simp only[ac,A,zA];exact⟨(U,t),rfl,V,by show t.length<=600;omega⟩
theorem D6:∀s,s∈([[97],[98],[99],[100],[101]]:List Str)->s.length=1:=fun s a=>by
 simp at a;rcases a with rfl | rfl | rfl | rfl | rfl<;>rfl
theorem acy{c:bM}(h:dF c):Dr (EW c) fun s=>s.length<=120:=by
 unfold EW;simp only[aH];refine Dr.bind (dZ h 9) fun o x d v=>?_
 have two:Dr ((dK o ([[97],[98],[99],[100],[101]]:List Str)).bind fun g=>(Go.Abs.gd (g.2.length+[32,43,32].length)).bind fun _=>(dK g.1 ([[97],[98],[99],[100],[101]]:List Str)).bind fun i=>
   (Go.Abs.gd ((g.2++[32,43,32]).length+i.2.length)).bind fun _=>some (i.1,(g.2++[32,43,32])++i.2)) fun s=>s.length<=120:=by
  refine Dr.bind (fJ d _ (by simp)) fun f s b a=>?_
  have ls:=D6 s a;refine Dr.gd (by simp;omega) (Dr.bind (fJ b _ (by simp)) fun p t j k=>?_);have lt:=D6 t k;exact Dr.gd (by simp;omega) (.ret j (by simp;omega))
 refine Dr.bif (fun _=>two) fun _=>Dr.bif (fun _=>two) fun _=>Dr.bif (fun _=>?_) fun _=>Dr.bif (fun _=>?_) fun _=>Dr.bif (fun _=>?_) fun _=>Dr.bif (fun _=>?_) fun _=>Dr.bif (fun _=>?_) fun _=>?_
 ·refine Dr.bind (fJ d _ (by simp)) fun f s b a=>?_
  have ls:=D6 s a;exact Dr.gd (by simp;omega) (.ret b (by simp;omega))
 ·refine Dr.bind (dZ d 3) fun f y b a=>?_
  have:=a.2 (by omega);obtain⟨t,q,m,_⟩:=uU y a.1 (by omega);refine Dr.pbind (P:=fun s=>s.length<=19) ⟨t,q,m⟩ fun t m=>Dr.gd (by simp;omega) (Dr.gd (by simp;omega) (Dr.bind (fJ b _ (by simp)) fun p s j k=>?_))
  have ls:=D6 s k;exact Dr.gd (by simp;omega) (Dr.gd (by simp;omega) (.ret j (by simp;omega)))
 ·refine Dr.bind (fJ d _ (by simp)) fun f s b a=>?_
  have ls:=D6 s a;exact Dr.gd (by simp;omega) (Dr.gd (by simp;omega) (.ret b (by simp;omega)))
 ·refine Dr.bind (fJ d _ (by simp)) fun f s b a=>.ret b ?_
  simp at a;rcases a with rfl | rfl | rfl | rfl | rfl<;>simp
 ·refine Dr.bind (fJ d _ (by simp)) fun f s b a=>.ret b ?_
  simp at a;rcases a with rfl | rfl | rfl | rfl | rfl | rfl | rfl | rfl | rfl<;>simp
 ·refine Dr.bind (af6 2 d ⟨by simp,fun s r=>by rw[D6 s r];omega⟩ (by simp) (by omega)) fun f e b a=>?_
  obtain⟨t,u,n⟩:=MR e a;refine Dr.pbind (P:=fun s=>s.length<=2640) ⟨t,u,n⟩ fun t n=>Dr.bif (fun _=>.ret b (by simp)) fun l=>.ret b ?_
  simp at l;omega
theorem ae3{id v k n:Int}{nm cd:Str}(a:-1000000000<=id/\id<=1000000000)(b:-1000000000<=v/\v<=1000000000)(c:-1000000000<=k/\k<=1000000000)(e:nm.length<=1000)(f:cd.length<=1000)(d:-1000000000<=n/\n<=1000000000) :
  Fit B20 (.base .cell) (aj.mk id v k nm cd n):=by
 rw[Gv];exact⟨qI a.1 a.2,qI b.1 b.2,qI c.1 c.2,abg (by show nm.length<=_;omega),abg (by show cd.length<=_;omega),qI d.1 d.2⟩
structure aid(id:Int)(x:aj):Prop where
 fit:Fit B20 (.base .cell) x
 id:x.id=id
 v0:1<=x.version
 v3:x.version<=3
 name:x.name.length<=1
 code:x.code.length<=600
 n0:0<=x.n
 n9:x.n<=9
 k0:1<=x.kind
 k4:x.kind<=4
theorem X5{id v k n:Int}{nm cd:Str}(f:0<=id/\id<=1000000)(a:1<=v/\v<=3)(b:1<=k/\k<=4)(d:nm.length<=1)(e:cd.length<=600)(c:0<=n/\n<=9):aid id (aj.mk id v k nm cd n):=
 ⟨ae3 (by omega) (by omega) (by omega) (by omega) (by omega) (by omega),rfl,a.1,a.2,d,e,c.1,c.2,b.1,b.2⟩
theorem aaY{c:bM}(h:dF c)(id:Int)(b:0<=id)(d:id<=1000000):Dr (vI c id) (aid id):=by
 unfold vI;refine Dr.bind (dZ h 3) fun q x j i=>Dr.bind (DV j _ (by simp)) fun r k l m=>Dr.bind (fJ l _ (by simp)) fun t nm e n=>?_
 have u:=i.2 (by omega);have ln:=D6 nm n;have f:1<=k/\k<=4:=by
  simp at m;omega
 have o:w64 (1+x)=1+x:=bK (by omega) (by omega);have p:=i.1;simp only[o];refine Dr.bif (fun _=>?_) fun _=>Dr.bif (fun _=>?_) fun _=>Dr.bif (fun _=>?_) fun _=>Dr.bif (fun _=>?_) fun _=>?_
 ·refine Dr.bind (fJ e _ (by simp)) fun g s k4 a=>.ret k4 (X5 ⟨b,d⟩ (by omega) f (by simp) ?_ (by omega))
  simp at a;rcases a with rfl | rfl | rfl<;>simp
 ·exact Dr.bind (acy e) fun g s k4 a=>.ret k4 (X5 ⟨b,d⟩ (by omega) f (by show nm.length<=1;omega) (by show s.length<=600;omega) (by omega))
 ·refine Dr.bind (dZ e 9) fun g y k4 a=>.ret k4 (X5 ⟨b,d⟩ (by omega) f (by show nm.length<=1;omega) (by simp) ?_)
  have:=a.2 (by omega);exact⟨a.1,by show y<=9;omega⟩
 ·exact Dr.bind (agw e) fun g s k4 a=>.ret k4 (X5 ⟨b,d⟩ (by omega) f (by show nm.length<=1;omega) a (by omega))
 ·exact .ret e (X5 ⟨b,d⟩ (by omega) f (by show nm.length<=1;omega) (by simp) (by omega))
end Go.Proofs.YtkebfkahdmddpaaGreatDoor
