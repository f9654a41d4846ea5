import Derived.Test.YtkebfkahdmddpaaGreatDoorForm1
set_option linter.unusedSimpArgs false
set_option linter.unusedVariables false
/- Plain laws: the text of an expression is cut into its own tokens, and read back. -/
namespace Go.Proofs.YtkebfkahdmddpaaGreatDoor
open Go.Abs Go.Proofs
def ac6:List Str:=[[40],[41],[91],[93],[44],[43],[45],[42],[60],[61],[61,61]]
def TkV(t:Tk):Prop:=
 (t.kind=1/\t.n=0/\(∃c r,t.text=c::r/\isLet c=true)/\(∀c,c∈t.text->lV c=true)/\t.text.length<=8) \/
 (t.kind=2/\0<=t.n/\t.n<=1000000000/\t.text=[]) \/
 (t.kind=3/\t.n=0/\dw t.text=some true/\t.text.length<=120) \/
 (t.kind=4/\t.n=0/\t.text∈ac6)
def Brk(s:Str):Prop:=s=[]\/∃c r,s=c::r/\(c=32\/c=40\/c=41\/c=93\/c=44)
def free(t:Tk):Prop:=t.kind=3\/(t.kind=4/\t.text≠[61])
theorem aa2{s:Str}(h:Brk s)(p:UInt8->Bool)(a:p 32=false/\p 40=false/\p 41=false/\p 93=false/\p 44=false):s=[]\/∃c r,s=c::r/\p c=false:=by
 rcases h with h | ⟨c,r,h,b⟩
 ·exact .inl h
 ·refine .inr ⟨c,r,h,?_⟩;rcases b with rfl | rfl | rfl | rfl | rfl
  ·exact a.1
  ·exact a.2.1
  ·exact a.2.2.1
  ·exact a.2.2.2.1
  ·exact a.2.2.2.2
theorem qY(p:UInt8->Bool):∀(t rest:Str),(∀c,c∈t->p c=true)->(rest=[]\/∃c r,rest=c::r/\p c=false)->bC p (t++rest)=t.length
 | [],rest,_,h=>by
  rcases h with rfl | ⟨c,r,rfl,b⟩
  ·rfl
  ·show bC p (c::r)=0
   unfold bC;rw[if_neg (by rw[b];simp)]
 | c::t,rest,a,h=>by
  show bC p (c::(t++rest))=_
  unfold bC;rw[if_pos (a c (by simp)),qY p t rest (fun d e=>a d (by simp[e])) h];rfl
theorem Bg{a:Str}{b:Nat}{t rest:Str}(h:a.drop b=t++rest):(a.take (b+t.length)).drop b=t:=by
 rw[List.drop_take,h,show b+t.length-b=t.length by omega];exact List.take_left' rfl
theorem yA{a:Str}{b:Nat}{c:UInt8}{r:Str}(h:a.drop b=c::r):a[b]?=some c:=by
 have:(a.drop b)[0]?=some c:=by rw[h];rfl
 rw[List.getElem?_drop,Nat.add_zero]at this;exact this
theorem val_append(d:UInt8):∀(t:Str) (acc:Nat),aQ acc (t++[d])=aQ acc t*10+(d.toNat-48):=by
 intro t acc;unfold aQ;rw[List.foldl_append];rfl
theorem Tz:∀n:Nat,aQ 0 (Go.Lib.decDigits n)=n/\(∀c,c∈Go.Lib.decDigits n->dA c=true)/\Go.Lib.decDigits n≠[]:=by
 intro n;induction n using Nat.strongRecOn with
 | _ n ih=>
  have one:∀k:Nat,k<10->(UInt8.ofNat (48+k)).toNat=48+k/\dA (UInt8.ofNat (48+k))=true:=by decide
  rw[Go.Lib.decDigits];by_cases b:n<10
  ·rw[dif_pos b];obtain⟨d,e⟩:=one n b;refine⟨?_,fun c a=>by rw[List.mem_singleton.1 a];exact e,by simp⟩;show 0*10+((UInt8.ofNat (48+n)).toNat-48)=n
   rw[d];omega
  ·rw[dif_neg b];obtain⟨d,e⟩:=one (n % 10) (by omega);obtain⟨f,g,h⟩:=ih (n / 10) (by omega);refine⟨?_,fun c a=>?_,by simp⟩
   ·rw[val_append,f,d];omega
   ·rcases List.mem_append.1 a with a | a
    ·exact g c a
    ·rw[List.mem_singleton.1 a];exact e
theorem Zb{n:Int}(a:0<=n)(f:n<=1000000000):gU (Go.Lib.itoa n)=some (n,true):=by
 obtain⟨m,rfl⟩:=Int.eq_ofNat_of_zero_le a;have hi:Go.Lib.itoa (m:Int)=Go.Lib.decDigits m:=by unfold Go.Lib.itoa;rw[if_neg (by omega)];rfl
 obtain⟨b,d,v3⟩:=Tz m;have hlen:=vg 10 m (by have:(10:Nat) ^ 10=10000000000:=rfl;omega);rw[hi];unfold gU;rw[Q9 _ (fun c e=>by have:=d c e;unfold dA at this;unfold iR;simpa using this) v3 (by simp at hlen;omega),b,if_pos ⟨by simp at hlen;omega,hi⟩];rfl
theorem aen{n:Int}(a:0<=n):(∀c,c∈Go.Lib.itoa n->dA c=true)/\∃c r,Go.Lib.itoa n=c::r:=by
 obtain⟨m,rfl⟩:=Int.eq_ofNat_of_zero_le a;have hi:Go.Lib.itoa (m:Int)=Go.Lib.decDigits m:=by unfold Go.Lib.itoa;rw[if_neg (by omega)];rfl
 rw[hi];exact⟨(Tz m).2.1,List.exists_cons_of_ne_nil (Tz m).2.2⟩
theorem afp{a:Str}{b:Nat}{t:Tk}{rest:Str}(B:a.length<=120)(f:a.drop b=tkT t++rest)(hv:TkV t)(C:free t\/Brk rest) :
  ∃(u:aA) (c:UInt8),jD a (b:Int)=some (u,((tkT t).length:Int))/\Xg u t/\0<(tkT t).length/\a[b]?=some c/\c≠32:=by
 rcases hv with ⟨g,p,⟨c,r,j,s⟩,hall,Q⟩ | ⟨g,D,o,N⟩ | ⟨g,p,w,h120⟩ | ⟨g,p,x⟩
 ·have e:tkT t=t.text:=by unfold tkT;rw[g];rfl
  rw[e]at f ⊢;have k:Brk rest:=by
   rcases C with h | h
   ·rcases h with h | h
    ·rw[g]at h;cases h
    ·rw[g]at h;exact absurd h.1 (by decide)
   ·exact h
  have hrun:bC lV (a.drop b)=t.text.length:=by rw[f];exact qY lV _ _ hall (aa2 k lV (by decide))
  have d:a[b]?=some c:=yA (r:=r++rest) (by rw[f,j];rfl);refine⟨⟨1,0,b,t.text⟩,c,?_,⟨g.symm,p.symm,rfl⟩,by rw[j];simp,d,by rintro rfl;revert s;decide⟩;rw[LW a b B d s,hrun,Bg f,if_neg (by omega)]
 ·have e:tkT t=Go.Lib.itoa t.n:=by unfold tkT;rw[g];rfl
  rw[e]at f ⊢;obtain⟨hdig,c,r,j⟩:=aen D;have k:Brk rest:=by
   rcases C with h | h
   ·rcases h with h | h
    ·rw[g]at h;exact absurd h (by decide)
    ·rw[g]at h;exact absurd h.1 (by decide)
   ·exact h
  have hrun:bC dA (a.drop b)=(Go.Lib.itoa t.n).length:=by rw[f];exact qY dA _ _ hdig (aa2 k dA (by decide))
  have d:a[b]?=some c:=yA (r:=r++rest) (by rw[f,j];rfl);have y:dA c=true:=hdig c (by rw[j];simp);obtain⟨vi,vs,ok,oks,_,E,_,_,L⟩:=Z9 a b B d y;rw[hrun,Bg f,Zb D o]at L;cases L
  rw[hrun]at E;rw[al o]at E;exact⟨_,c,E,⟨g.symm,rfl,N.symm⟩,by rw[j];simp,d,by rintro rfl;revert y;decide⟩
 ·have e:tkT t=34::(t.text++[34]):=by unfold tkT;rw[g];rfl
  rw[e]at f ⊢;have d:a[b]?=some 34:=yA (r:=t.text++[34]++rest) (by rw[f];rfl);have l:a.drop (b+1)=t.text++(34::rest):=by
   have:a.drop (b+1)=(a.drop b).drop 1:=by rw[List.drop_drop,Nat.add_comm]
   rw[this,f];simp
  obtain⟨v,hv,hall⟩:=xh t.text h120;have hv:dw t.text=some v:=hv;rw[w]at hv;cases hv
  have F:∀c,c∈t.text->noQ c=true:=fun c j=>by
   have:=(hall rfl).2 c j;unfold P8 at this;unfold noQ;rw[zI]at this;have i:=this.2;cases O:(c==34)with
   | false=>rfl
   | true=>rw[eq_of_beq O]at i;revert i;decide
  have hrun:bC noQ (a.drop (b+1))=t.text.length:=by rw[l];exact qY noQ _ _ F (.inr ⟨34,rest,rfl,by decide⟩)
  have q:=LV a b B d _ rfl;rw[hrun]at q;have hlen:(a.drop (b+1)).length=t.text.length+(rest.length+1):=by rw[l];simp
  rw[List.length_drop]at hlen;rw[if_pos (by omega),Bg l,w,zA]at q;refine⟨⟨3,0,b,t.text⟩,34,?_,⟨g.symm,p.symm,rfl⟩,by simp,d,by decide⟩;rw[q];simp only[ac,List.length_cons,a7,List.length_nil];rw[show b+1+t.text.length+1-b=t.text.length+(0+1)+1 by omega]
 ·have e:tkT t=t.text:=by unfold tkT;rw[g];rfl
  rw[e]at f ⊢;have go:∀(c:UInt8) (n:Nat),a[b]?=some c->isLet c=false->dA c=false->c≠34->qQ a b c=n->t.text.length=n->0<n->c≠32->∃(u:aA) (c:UInt8),jD a (b:Int)=some (u,(t.text.length:Int))/\Xg u t/\0<t.text.length/\a[b]?=some c/\c≠32:=by
   intro c n d o i G H I D J;have q:=Ri a b B d o i G;rw[H,<- I,Bg f]at q;exact⟨_,c,q,⟨g.symm,p.symm,rfl⟩,by omega,d,J⟩
  have one:∀c:UInt8,sy9 c->t.text=[c]->isLet c=false->dA c=false->c≠34->c≠32->∃(u:aA) (c:UInt8),jD a (b:Int)=some (u,(t.text.length:Int))/\Xg u t/\0<t.text.length/\a[b]?=some c/\c≠32:=by
   intro c j M o i G P;exact go c 1 (yA (r:=rest) (by rw[f,M];rfl)) o i G (by unfold qQ;rw[if_pos j]) (by rw[M];rfl) (by omega) P
  have z:¬sy9 61:=by unfold sy9;decide
  simp only[ac6,bc,List.not_mem_nil,or_false]at x;rcases x with h | h | h | h | h | h | h | h | h | h | h
  ·exact one 40 (by unfold sy9;decide) h (by decide) (by decide) (by decide) (by decide)
  ·exact one 41 (by unfold sy9;decide) h (by decide) (by decide) (by decide) (by decide)
  ·exact one 91 (by unfold sy9;decide) h (by decide) (by decide) (by decide) (by decide)
  ·exact one 93 (by unfold sy9;decide) h (by decide) (by decide) (by decide) (by decide)
  ·exact one 44 (by unfold sy9;decide) h (by decide) (by decide) (by decide) (by decide)
  ·exact one 43 (by unfold sy9;decide) h (by decide) (by decide) (by decide) (by decide)
  ·exact one 45 (by unfold sy9;decide) h (by decide) (by decide) (by decide) (by decide)
  ·exact one 42 (by unfold sy9;decide) h (by decide) (by decide) (by decide) (by decide)
  ·exact one 60 (by unfold sy9;decide) h (by decide) (by decide) (by decide) (by decide)
  ·have k:Brk rest:=by
    rcases C with m | m
    ·rcases m with m | m
     ·rw[g]at m;exact absurd m (by decide)
     ·exact absurd h m.2
    ·exact m
   have l:a.drop (b+1)=rest:=by
    have:a.drop (b+1)=(a.drop b).drop 1:=by rw[List.drop_drop,Nat.add_comm]
    rw[this,f,h];rfl
   have K:¬a[b+1]?=some 61:=fun hh=>by
    have i:(a.drop (b+1))[0]?=some 61:=by rw[List.getElem?_drop,Nat.add_zero];exact hh
    rw[l]at i;rcases k with rfl | ⟨c,r,rfl,j⟩
    ·simp at i
    ·have i:c=61:=by simpa using i
     subst i;revert j;decide
   exact go 61 1 (yA (r:=rest) (by rw[f,h];rfl)) (by decide) (by decide) (by decide) (by unfold qQ;rw[if_neg z,if_pos rfl,if_neg K]) (by rw[h];rfl) (by omega) (by decide)
  ·have A:a[b+1]?=some 61:=by
    have i:(a.drop b)[1]?=some 61:=by rw[f,h];rfl
    rw[List.getElem?_drop]at i;exact i
   exact go 61 2 (yA (r:=61::rest) (by rw[f,h];rfl)) (by decide) (by decide) (by decide) (by unfold qQ;rw[if_neg z,if_pos rfl,if_pos A]) (by rw[h];rfl) (by omega) (by decide)
def Wp:Pcs->Str->Prop
 | [],_=>True
 | none::r,z=>Wp r z
 | some t::r,z=>TkV t/\(free t\/Brk (txt r++z))/\Wp r z
theorem jR:∀(a b:Pcs) (z:Str),Wp (a++b) z↔Wp a (txt b++z)/\Wp b z
 | [],b,z=>by simp[Wp]
 | none::r,b,z=>jR r b z
 | some t::r,b,z=>by
  show (TkV t/\(free t\/Brk (txt (r++b)++z))/\Wp (r++b) z)↔(TkV t/\(free t\/Brk (txt r++(txt b++z)))/\Wp r (txt b++z))/\Wp b z
  rw[jR r b z,fM,a8,and_assoc,and_assoc]
theorem TF{g:Str×List aA×Int->Option ((Str×List aA×Int)⊕(List aA×Int))}{a:Str}(k:a.length<=120)
  (l:∀out,g (a,out,(a.length:Int))=some (.inr (out,-1)))
  (m:∀(b:Nat) out,a[b]?=some 32->g (a,out,(b:Int))=some (.inl (a,out,((b+1:Nat):Int))))
  (o:∀(b n:Nat) (c:UInt8) (u:aA) out,a[b]?=some c->c≠32->jD a (b:Int)=some (u,(n:Int))->0<n->n<=1000->out.length<60->g (a,out,(b:Int))=some (.inl (a,out++[u],((b+n:Nat):Int)))) :
  ∀(ps:Pcs) (b:Nat) (out:List aA),b<=a.length->a.drop b=txt ps->Wp ps []->out.length+(tks ps).length<=60->∃T,ak g (a,out,(b:Int))=some (out++T,-1)/\T.length=(tks ps).length/\∀(j:Nat) (t:Tk),(tks ps)[j]?=some t->∃u,T[j]?=some u/\Xg u t
 | [],b,out,y,d,_,_=>by
  have p:b=a.length:=by
   have:=congrArg List.length d;rw[List.length_drop]at this;simp[txt]at this;omega
  subst p;refine⟨[],by rw[aJ,l,List.append_nil],rfl,fun j t h=>by simp[tks]at h⟩
 | none::r,b,out,y,d,q,i=>by
  have d:a.drop b=32::txt r:=d;have f:=yA d;have A:=(zC.1 f).1;have e:a.drop (b+1)=txt r:=by
   have:a.drop (b+1)=(a.drop b).drop 1:=by rw[List.drop_drop,Nat.add_comm]
   rw[this,d];rfl
  obtain⟨T,s,w,x⟩:=TF k l m o r (b+1) out (by omega) e q i;exact⟨T,by rw[aJ,m b out f];exact s,w,x⟩
 | some t::r,b,out,y,d,q,i=>by
  have d:a.drop b=tkT t++txt r:=d;obtain⟨B,z,C⟩:=q;rw[List.append_nil]at z;have i:out.length+((tks r).length+1)<=60:=i;obtain⟨u,c,s,w,x,D,E⟩:=afp k d B z;have hlen:=congrArg List.length d;rw[List.length_drop,a7]at hlen;have e:a.drop (b+(tkT t).length)=txt r:=by
   rw[<- List.drop_drop,d];exact List.drop_left' rfl
  obtain⟨T,F,G,H⟩:=TF k l m o r (b+(tkT t).length) (out++[u]) (by omega) e C (by rw[a7];simp;omega);refine⟨u::T,?_,by show T.length+1=(tks r).length+1;rw[G],fun j v hv=>?_⟩
  ·rw[aJ,o b _ c u out D E s x (by omega) (by omega)];simp only;rw[F,a8];rfl
  ·cases j with
   | zero=>
    have hv:some t=some v:=hv;cases hv
    exact⟨u,rfl,w⟩
   | succ j=>exact H j v hv
theorem aic{toks:List aA}:∀(ts:List Tk) (i:Nat),(∀(j:Nat) (t:Tk),ts[j]?=some t->∃u,toks[i+j]?=some u/\Xg u t)->Ms toks i ts
 | [],_,_=>trivial
 | t::r,i,h=>⟨h 0 t rfl,aic r (i+1) fun j v hv=>by
  obtain⟨u,a,b⟩:=h (j+1) v hv;exact⟨u,by rw[<- a];congr 1;omega,b⟩⟩
theorem ac0{ps:Pcs}(i:(txt ps).length<=120)(k:Wp ps [])(l:(tks ps).length<=60):∃toks,nK (txt ps)=some (toks,-1)/\toks.length=(tks ps).length/\Ms toks 0 (tks ps):=by
 suffices h:∃T,nK (txt ps)=some ([]++T,-1)/\T.length=(tks ps).length/\∀(j:Nat) (t:Tk),(tks ps)[j]?=some t->∃u,T[j]?=some u/\Xg u t by
  obtain⟨T,g,m,o⟩:=h;exact⟨T,g,m,aic _ 0 fun j t p=>by rw[Nat.zero_add];exact o j t p⟩
 unfold nK;rw[ae (show ¬(((txt ps).length:Int)>120) by omega),aa];refine TF i (fun out=>?_) (fun b out a=>?_) (fun b n c u out a d q w g x=>?_) ps 0 [] (Nat.zero_le _) rfl k (by simpa using l)
 ·have e:decide (((txt ps).length:Int)<((txt ps).length:Int))=false:=by simp
  simp only[e,aa]
 ·have f:=(zC.1 a).1;have e:decide ((b:Int)<((txt ps).length:Int))=true:=by simp;omega
  simp only[e,ac,au,a,zA];rw[show (((32:UInt8).toNat:Int)==32)=true from rfl,ac,fG (by omega)]
 ·have f:=(zC.1 a).1;have e:decide ((b:Int)<((txt ps).length:Int))=true:=by simp;omega
  have r:((c.toNat:Int)==32)=false:=neN c 32 d;have s:((n:Int)==0)=false:=by rw[beq_eq_false_iff_ne];omega
  have v:((out.length:Int)==60)=false:=by rw[beq_eq_false_iff_ne];omega
  have ew:w64 ((b:Int)+(n:Int))=((b+n:Nat):Int):=by rw[bK (by omega) (by omega)];omega
  simp only[e,ac,au,a,zA,r,aa,q,s,v,ew];rw[gdp (by simp;omega)];rfl
end Go.Proofs.YtkebfkahdmddpaaGreatDoor
/- Plain laws: ParseExpr reads the text of a valid expression as the expression; a parsed expression's text has no more tokens than what it was read from. -/
namespace Go.Proofs.YtkebfkahdmddpaaGreatDoor
open Go.Abs Go.Proofs
def Qb(t:Str):Bool:=(match t with
 | c::_=>isLet c
 | []=>false)&&(t.all lV&&decide (t.length<=8))
theorem aif{t:Str}(h:Qb t=true):TkV ⟨1,0,t⟩:=by
 unfold Qb at h;rw[zI,zI]at h;obtain⟨a,b,d⟩:=h;refine .inl ⟨rfl,rfl,?_,List.all_eq_true.1 b,of_decide_eq_true d⟩;cases t with
 | nil=>cases a
 | cons c r=>exact⟨c,r,rfl,a⟩
theorem agK{t:Str}(h:0<=nH t):Qb t=true:=by
 have key:∃r,cu t=some r/\(0<=r->Qb t=true):=by
  unfold cu;have go:∀(w:Str) (k:Int) (z:Option Int),Qb w=true->(∃r,z=some r/\(0<=r->Qb t=true))->∃r,(bif (t==w)then some k else z)=some r/\(0<=r->Qb t=true):=by
   intro w k z a b;cases h:(t==w)with
   | true=>
    have e:=eq_of_beq h;exact⟨k,rfl,fun _=>by rw[e];exact a⟩
   | false=>exact b
  repeat refine go _ _ _ (by decide) ?_
  exact⟨-1,rfl,fun h=>by omega⟩
 obtain⟨r,e,c⟩:=key;unfold nH at h;rw[e]at h;exact c h
theorem Z5:∀(s:Str) (i:Nat),gq i s=true->s.all lV=true
 | [],_,_=>rfl
 | c::r,i,h=>by
  have h:(Kt i c&&gq (i+1) r)=true:=h;rw[zI]at h;show (lV c&&r.all lV)=true
  rw[Z5 r (i+1) h.2,Bool.and_true];have a:=h.1;unfold Kt at a;unfold lV isLet dA;simp at a ⊢;omega
theorem Ld{t:Str}(g:t.length<=120)(h:bZ t=true):Qb t=true:=by
 unfold bZ aT at h;rw[nD t (by omega),zA]at h;cases b:(gq 0 t&&(decide (1<=(t.length:Int))&&decide ((t.length:Int)<=8)))with
 | false=>rw[b]at h;cases h
 | true=>
  rw[zI,zI]at b;obtain⟨a,e,f⟩:=b;unfold Qb;rw[Z5 t 0 a,al (show t.length<=8 by have:=of_decide_eq_true f;omega)];cases t with
  | nil=>exact absurd (of_decide_eq_true e) (by simp)
  | cons c r=>
   have a:(Kt 0 c&&gq 1 r)=true:=a;rw[zI]at a;have d:=a.1;unfold Kt at d;show (isLet c&&(true&&true))=true
   unfold isLet;simp at d ⊢;omega
theorem I4{c:UInt8}{r:Str}(h:c=32\/c=40\/c=41\/c=93\/c=44):Brk (c::r):=.inr ⟨c,r,rfl,h⟩
theorem aie{s:Str}(h:s∈ac6):TkV ⟨4,0,s⟩:=.inr (.inr (.inr ⟨rfl,rfl,h⟩))
theorem Tt{s:Str}{r:Pcs}{z:Str}(h:s∈ac6)(a:s≠[61]\/Brk (txt r++z))(b:Wp r z):Wp (sy s::r) z:=⟨aie h,a.imp (fun h=>.inr ⟨rfl,h⟩) id,b⟩
theorem JS{s:Str}{r:Pcs}{z:Str}(h:Qb s=true)(a:Brk (txt r++z))(b:Wp r z):Wp (kw s::r) z:=⟨aif h,.inr a,b⟩
theorem iq{r:Pcs}{z:Str}:Brk (txt (none::r)++z):=I4 (.inl rfl)
abbrev WE(e:af):Prop:=∀z,Brk z->Wp (pcE e) z
theorem w_at{e:af}(h:WE e)(b:Nat){z:Str}(a:Brk z):Wp (pcA e b) z:=by
 unfold pcA atP;split
 ·refine Tt (by decide) (.inl (by decide)) ((jR _ _ _).2 ⟨h _ (I4 (.inr (.inr (.inl rfl)))),Tt (by decide) (.inl (by decide)) trivial⟩)
 ·exact h z a
theorem acT:∀(xs:List af),(∀x,x∈xs->WE x)->∀z,Brk z->Wp (Es (xs.map pcE)) z
 | [],_,z,_=>trivial
 | [x],h,z,a=>h x (by simp) z a
 | x::y::r,h,z,a=>by
  show Wp (Es (pcE x::pcE y::r.map pcE)) z
  rw[IU _ _ (by simp)];exact (jR _ _ _).2 ⟨h x (by simp) _ (I4 (.inr (.inr (.inr (.inr rfl))))),Tt (by decide) (.inl (by decide)) (acT (y::r) (fun u b=>h u (aq _ b)) z a)⟩
theorem acR:∀(n:Nat) (e:af),siz e<n->jA e->wtE e<=1000->WE e
 | 0,_,i,_,_=>absurd i (Nat.not_lt_zero _)
 | n+1,e,i,hv,q=>by
  cases hv with
  | mk _ h k=>
  have ih:∀x,x∈e.args->WE x:=fun x l=>acR n x (by have:=dI l;omega) (k x l) (by have:=lT l;omega)
  have g:=Bc (e:=e) (by omega);have m:=h.k0;have o:=h.k9;have f:e.kind=1\/e.kind=2\/e.kind=3\/e.kind=4\/e.kind=5\/e.kind=6\/e.kind=7\/e.kind=8\/e.kind=9:=by omega
  intro z j;rcases f with f | f | f | f | f | f | f | f | f
  ·rw[pc1 f];have:=h.num f;exact⟨.inr (.inl ⟨rfl,this.1,this.2,rfl⟩),.inr j,trivial⟩
  ·rw[pc2 f];exact⟨.inr (.inr (.inl ⟨rfl,rfl,h.tx f,g⟩)),.inl (.inl rfl),trivial⟩
  ·rw[pc3 f];exact JS (Ld g (vw (h.nm (.inl f)) g)) j trivial
  ·rw[pc4 f];exact Tt (by decide) (.inl (by decide)) ((jR _ _ _).2 ⟨acT e.args ih _ (I4 (.inr (.inr (.inr (.inl rfl))))),Tt (by decide) (.inl (by decide)) trivial⟩)
  ·rw[pc5 f];exact JS (agK (by rw[<- h.cl f];omega)) (I4 (.inr (.inl rfl))) (Tt (by decide) (.inl (by decide)) ((jR _ _ _).2 ⟨acT e.args ih _ (I4 (.inr (.inr (.inl rfl)))),Tt (by decide) (.inl (by decide)) trivial⟩))
  ·obtain⟨p,r,s⟩:=h.op f;obtain⟨a,b,d⟩:=lq p;rw[pc6 f d];have k:opS e.n∈ac6/\opS e.n≠[61]:=by
    have i:e.n=1\/e.n=2\/e.n=3\/e.n=4\/e.n=5:=by omega
    rcases i with i | i | i | i | i<;>(rw[i];decide)
   exact (jR _ _ _).2 ⟨w_at (ih a (by rw[d];simp)) _ iq,Tt k.1 (.inl k.2) (w_at (ih b (by rw[d];simp)) _ j)⟩
  ·obtain⟨a,b,d⟩:=lq (h.two (.inl f));rw[pc7 f d];exact JS (by decide) iq (JS (Ld g (vw (h.nm (.inr (.inl f))) g)) iq (Tt (by decide) (.inr iq) ((jR _ _ _).2 ⟨ih a (by rw[d];simp) _ iq,JS (by decide) iq (ih b (by rw[d];simp) z j)⟩)))
  ·obtain⟨a,b,c,d⟩:=tJ (h.three f);rw[pc8 f d];exact JS (by decide) iq ((jR _ _ _).2 ⟨ih a (by rw[d];simp) _ iq,JS (by decide) iq ((jR _ _ _).2 ⟨ih b (by rw[d];simp) _ iq,JS (by decide) iq (ih c (by rw[d];simp) z j)⟩)⟩)
  ·obtain⟨a,b,d⟩:=lq (h.two (.inr f));rw[pc9 f d];exact JS (by decide) iq (JS (Ld g (vw (h.nm (.inr (.inr f))) g)) iq (JS (by decide) iq ((jR _ _ _).2 ⟨ih a (by rw[d];simp) _ iq,JS (by decide) iq (ih b (by rw[d];simp) z j)⟩)))
theorem Zc{e:af}(hv:jA e)(p:wtE e<=40)(d:bV e=some true)(f:(txt (pcE e)).length<=120)(g:(tkE e).length<=60):fB (txt (pcE e))=some (e,-1):=by
 obtain⟨toks,b,j,k⟩:=ac0 f (acR (siz e+1) e (Nat.lt_succ_self _) hv (by omega) [] (.inl rfl)) g;obtain⟨r,a,_,c⟩:=rY (txt (pcE e));rw[b]at c;cases c
 have h:=a (by show (-1:Int)<0;omega);have q:=abM h hv (by omega) k j;unfold fB;rw[b,zA];have l:decide ((-1:Int)>=0)=false:=rfl;have m:(encS toks ((txt (pcE e)).length:Int) (st toks.length)).bad = -1:=rfl;have n:decide ((encS toks ((txt (pcE e)).length:Int) (st toks.length)).i<(toks.length:Int))=false:=ae (Int.lt_irrefl _);have o:decide ((-1:Int)<0)=true:=rfl;simp only[l,aa,q,zA,m,n,o,ac,aH,d,aM]
def nA(x:af)(b:Nat):Nat:=(tkA x b).length
theorem mF(x:af)(b:Nat):nA x b=if lvl x<b then (tkE x).length+2 else (tkE x).length:=by
 unfold nA;split
 ·rename_i h;rw[lD h];simp
 ·rename_i h;rw[kQ (by omega)]
theorem UJ(x:af){b c:Nat}(h:b<=c):nA x b<=nA x c:=by
 rw[mF,mF];split<;>split<;>omega
def JU(xs:List af):Nat:=(xs.map fun x=>(tkE x).length+1).sum
theorem KD:∀(xs:List af),xs≠[]->(tkL xs).length+1=JU xs
 | [],h=>absurd rfl h
 | [x],_=>by rw[EF];unfold JU;simp
 | x::y::r,_=>by
  have:=KD (y::r) (by simp);rw[zh,a7,List.length_cons];have e:JU (x::y::r)=(tkE x).length+1+JU (y::r):=by unfold JU;simp
  rw[e];omega
theorem ac1{e x y:af}(a:e.kind=6)(b:e.args=[x,y]):(tkE e).length=nA x (oI e.n)+1+nA y (kX e.n+1):=by
 have c:tkE e=tkA x (oI e.n)++⟨4,0,opS e.n⟩::tkA y (kX e.n+1):=by unfold tkE;rw[pc6 a b,cZ,iW,jr,iW];rfl
 rw[c,a7,List.length_cons];show _=(tkA x (oI e.n)).length+1+(tkA y (kX e.n+1)).length
 omega
theorem WY{x y:af}{k:Int}{b:Nat}(h:b<=kX k):nA ⟨6,k,[],[x,y]⟩ b=nA x (oI k)+1+nA y (kX k+1):=by
 have lv:lvl ⟨6,k,[],[x,y]⟩=kX k:=by unfold lvl;rfl
 rw[mF,if_neg (by rw[lv];omega)];exact ac1 rfl rfl
def tkW:Wt where
 a:=fun x=>nA x 4
 p:=fun x=>nA x 3
 s:=fun x=>nA x 2
 c:=fun x=>nA x 1
 e:=fun x=>(tkE x).length
 l:=fun xs=>(tkL xs).length+1
 o:=JU
 leaf:=fun k n x _ h=>by
  show nA _ 4<=1
  have lv:lvl ⟨k,n,x,[]⟩=4:=by
   unfold lvl;rw[if_neg (by show ¬(k=7\/k=8\/k=9);omega),if_neg (by show ¬k=6;omega)]
  rw[mF,if_neg (by omega)];unfold tkE;rcases h with rfl | rfl | rfl
  ·rw[pc1 rfl];exact az _
  ·rw[pc2 rfl];exact az _
  ·rw[pc3 rfl];exact az _
 paren:=fun x=>by
  show nA x 4<=_
  rw[mF];split<;>omega
 lst:=fun xs=>by
  show nA _ 4<=_
  have lv:lvl ⟨4,0,[],xs⟩=4:=rfl;have b:tkE ⟨4,0,[],xs⟩=⟨4,0,[91]⟩::(tkL xs++[⟨4,0,[93]⟩]):=by unfold tkE;rw[pc4 rfl,jr,cZ];rfl
  rw[mF,if_neg (by omega),b];simp
 call:=fun x xs _=>by
  show nA _ 4<=_
  have lv:lvl ⟨5,0,x,xs⟩=4:=rfl;have b:tkE ⟨5,0,x,xs⟩=⟨1,0,x⟩::⟨4,0,[40]⟩::(tkL xs++[⟨4,0,[41]⟩]):=by unfold tkE;rw[pc5 rfl,oM,jr,cZ];rfl
  rw[mF,if_neg (by omega),b];simp
 ap:=fun x=>UJ x (by omega)
 prod:=fun x y=>by
  show nA _ 3<=nA x 3+1+nA y 4
  rw[WY (show 3<=kX 3 by decide)];exact az _
 ps:=fun x=>UJ x (by omega)
 sum:=fun k x y h=>by
  show nA _ 2<=nA x 2+1+nA y 3
  rcases h with rfl | rfl
  ·rw[WY (show 2<=kX 1 by decide)];exact az _
  ·rw[WY (show 2<=kX 2 by decide)];exact az _
 sc:=fun x=>UJ x (by omega)
 cmp:=fun k x y h=>by
  show nA _ 1<=nA x 2+1+nA y 2
  rcases h with rfl | rfl
  ·rw[WY (show 1<=kX 4 by decide)];exact az _
  ·rw[WY (show 1<=kX 5 by decide)];exact az _
 ce:=fun x=>by
  show _<=nA x 1
  rw[mF];split<;>omega
 two:=fun k t x y h _=>by
  show (tkE _).length<=(tkE x).length+(tkE y).length+4
  unfold tkE;rcases h with rfl | rfl
  ·rw[pc7 rfl rfl];simp only[cZ,iW,jr,oM,List.length_cons,a7];omega
  ·rw[pc9 rfl rfl];simp only[cZ,iW,jr,oM,List.length_cons,a7];omega
 three:=fun x y z=>by
  show (tkE _).length<=(tkE x).length+(tkE y).length+(tkE z).length+3
  unfold tkE;rw[pc8 rfl rfl];simp only[cZ,iW,jr,oM,List.length_cons,a7];omega
 nil:=az _
 o0:=rfl
 up:=fun xs x=>by
  show JU (xs++[x])<=JU xs+(tkE x).length+1
  unfold JU;simp;omega
 ol:=fun xs x=>Nat.le_of_eq (KD (xs++[x]) (by simp))
theorem abS{a:Str}{e:af}{p:Int}(h:fB a=some (e,p))(u:p<0):(tkE e).length<=60/\bV e=some true:=by
 obtain⟨r,g,_,m⟩:=rY a;unfold fB at h;rw[m,zA]at h;by_cases k:r.2>=0
 ·rw[al k]at h;simp only[ac,zD,Prod.mk.injEq]at h;omega
 ·rw[ae k]at h;have d:=g (by omega);obtain⟨s',x,y,_,n,o,w⟩:=FI d tkW;have hlen:=d.len;simp only[aa,n,zA,aH,Ya d]at h;cases f:s'.bad with
  | some b=>
   have j:=jf d b;have es:(encS r.1 (a.length:Int) s').bad=sK r.1 (a.length:Int) b:=by simp[encS,f]
   rw[f,es,al (show sK r.1 (a.length:Int) b>=0 from j)]at h;simp only[Option.isNone_some,aa,ac,zD,Prod.mk.injEq]at h;omega
  | none=>
   have es:(encS r.1 (a.length:Int) s').bad = -1:=by simp[encS,f]
   have fin:∀v:Bool,bV y=some v->(bif !v then some ((⟨0,0,[],[]⟩:af),(0:Int))else some (y,-1))=some (e,p)->(tkE e).length<=60/\bV e=some true:=fun v c hv=>by
    cases v with
    | false=>
     simp only[Bool.not_false,ac,zD,Prod.mk.injEq]at hv;omega
    | true=>
     simp only[aM,aa,zD,Prod.mk.injEq]at hv;obtain⟨q,l⟩:=o f;have l:(tkE x).length<=s'.i:=l;rw[<- hv.1];exact⟨by rw[<- q];omega,c⟩
   rw[f,es]at h;simp only[Option.isNone_none,ac,show decide ((-1:Int)>=0)=false from rfl,aa]at h;cases hi:decide ((encS r.1 (a.length:Int) s').i<(r.1.length:Int))with
   | true=>
    rw[hi]at h;have s:gy s'=⟨s'.i,some s'.i⟩:=by unfold gy;rw[f]
    have j:=jf d s'.i;have t:(encS r.1 (a.length:Int) ⟨s'.i,some s'.i⟩).bad=sK r.1 (a.length:Int) s'.i:=rfl;simp only[ac,qp d,s,zA,t,al (show sK r.1 (a.length:Int) s'.i>=0 from j),zD,Prod.mk.injEq]at h;omega
   | false=>
    rw[hi]at h;simp only[aa]at h;obtain⟨v,c,hv⟩:=zB.1 h;exact fin v c hv
end Go.Proofs.YtkebfkahdmddpaaGreatDoor
/- Lists built entry by entry. -/
namespace Go.Proofs.YtkebfkahdmddpaaGreatDoor
open Go.Abs Go.Proofs
def iC{α β:Type}(f:Nat->α->β):Nat->List α->List β
 | _,[]=>[]
 | i,x::r=>f i x::iC f (i+1) r
theorem uG{α β:Type}(f:Nat->α->β):∀(i:Nat) (xs:List α),(iC f i xs).length=xs.length
 | _,[]=>rfl
 | i,x::r=>by simp[iC,uG f (i+1) r]
theorem BF{α β X ρ:Type}{g:X->Option (X⊕ρ)}(pk:List β->Nat->X)(xs:List α)(f:Nat->α->β)(r:ρ)
  (e:∀i x out,xs[i]?=some x->out.length=i->g (pk out i)=some (.inl (pk (out++[f i x]) (i+1))))
  (h:g (pk (iC f 0 xs) xs.length)=some (.inr r)):ak g (pk [] 0)=some r:=by
 have key:∀(ys:List α) (i:Nat) (out:List β),xs.drop i=ys->out.length=i->out++iC f i ys=iC f 0 xs->ak g (pk out i)=some r:=by
  intro ys;induction ys with
  | nil=>
   intro i out b c a;have hi:i=xs.length:=by
    have d:=congrArg List.length a;have k:xs.length<=i:=List.drop_eq_nil_iff.1 b;rw[uG]at d;simp[iC]at d;omega
   rw[iC,List.append_nil]at a;subst hi;rw[aJ,a,h]
  | cons y r' ih=>
   intro i out b c a;have j:xs[i]?=some y:=by
    have:=congrArg (·[0]?) b;simpa using this
   rw[aJ,e i y out j c];refine ih (i+1) (out++[f i y]) ?_ (by simp[c]) ?_
   ·have:=congrArg List.tail b;simpa using this
   ·rw[a8];exact a
 exact key xs 0 [] rfl rfl rfl
theorem sO{α:Type}:∀(i:Nat) (xs:List α),iC (fun _ x=>x) i xs=xs
 | _,[]=>rfl
 | i,x::r=>by rw[iC,sO (i+1) r]
theorem Uz(i:Nat):decide ((i:Int)>0)=decide (0<i):=by
 by_cases h:0<i
 ·rw[al h,al (by omega)]
 ·rw[ae h,ae (by omega)]
end Go.Proofs.YtkebfkahdmddpaaGreatDoor
/- Plain laws: renaming in expressions is alike on both sides. -/
namespace Go.Proofs.YtkebfkahdmddpaaGreatDoor
open Go.Abs Go.Proofs
theorem XZ:∀(n:Nat) (e:af),siz e<n->wtE e<=1048576->sU n e=some e
 | 0,e,h,_=>absurd h (Nat.not_lt_zero _)
 | n+1,e,c,d=>by
  have ih:=XZ n;have f:=oJ (e:=e);show Eg (sU n) e=_
  unfold Eg;refine BF (fun (out:List af) (i:Nat)=>((0,0,[],[],e.kind,e.n,e.text,out,e.args,(e.args.length:Int),(i:Int)):Int×Int×Str×(List af)×Int×Int×Str×(List af)×(List af)×Int×Int)) e.args (fun _ x=>x) e (fun i x out a g=>?_) ?_
  ·have b:=zG a;have j:=lT b;have hi:=(zC.1 a).1;simp only[bW a,ac,au,a,zA,aH,ih x (by have:=dI b;omega) (by omega),bT a (by omega)];rw[gdp (by simp;omega)];rfl
  ·simp only[bG,aa,sO];cases e;rfl
theorem XY:∀(n:Nat) (e:af),siz e<n->wtE e<=1048576->vN n e=some e
 | 0,e,h,_=>absurd h (Nat.not_lt_zero _)
 | n+1,e,c,d=>by
  have ih:=XY n;have f:=oJ (e:=e);show Hz (vN n) e=_
  unfold Hz;refine BF (fun (out:List af) (i:Nat)=>((e.kind,e.n,e.text,e.args,0,0,[],[],e.kind,e.n,e.text,out,(i:Int)):Int×Int×Str×(List af)×Int×Int×Str×(List af)×Int×Int×Str×(List af)×Int)) e.args (fun _ x=>x) e (fun i x out a g=>?_) ?_
  ·have b:=zG a;have j:=lT b;have hi:=(zC.1 a).1;simp only[bW a,ac,au,a,zA,aH,ih x (by have:=dI b;omega) (by omega),bT a (by omega)];rw[gdp (by simp;omega)];rfl
  ·simp only[bG,aa,sO];cases e;rfl
theorem Ve(e:af)(a:wtE e<=1048576):BP e=some e:=XZ _ e (Nat.lt_succ_self _) a
theorem Wi(e:af)(a:wtE e<=1048576):vO e=some e:=XY _ e (Nat.lt_succ_self _) a
def kK(b:Str)(k:Int)(t:Str):Bool:=((k==7)||(k==9))&&(t==b)
def dG(b c:Str)(k:Int)(t:Str):Str:=if ((k==3)&&(t==b))=true then c else t
mutual
def kG(b c:Str):af->af
 | ⟨k,n,t,a⟩=>⟨k,n,dG b c k t,mr b c (kK b k t) 0 a⟩
def mr(b c:Str)(bi:Bool):Nat->List af->List af
 | _,[]=>[]
 | i,x::r=>(if (bi&&decide (0<i))=true then x else kG b c x)::mr b c bi (i+1) r
end
theorem Fz(b c:Str)(bi:Bool):∀(i:Nat) (xs:List af),mr b c bi i xs=iC (fun i x=>if (bi&&decide (0<i))=true then x else kG b c x) i xs
 | _,[]=>rfl
 | i,x::r=>by rw[mr,iC,Fz b c bi (i+1) r]
theorem FB(b c:Str)(e:af):kG b c e=⟨e.kind,e.n,dG b c e.kind e.text,mr b c (kK b e.kind e.text) 0 e.args⟩:=by cases e;rfl
theorem WC(b c:Str)(bi:Bool)(i:Nat)(xs:List af):(mr b c bi i xs).length=xs.length:=by rw[Fz,uG]
abbrev RI:=Str×Str×Int×Int×Str×(List af)×Int×Int×Str×(List af)×Bool×(List af)×Int×Int
abbrev RS:=Str×Str×Int×Int×Str×(List af)×Int×Int×Str×(List af)×Int×Int×Str×(List af)×Int
noncomputable def adJ(rec:af->Str->Str->Option af):RI->Option (RI⊕af):=(fun (a:Str×Str×Int×Int×Str×(List af)×Int×Int×Str×(List af)×Bool×(List af)×Int×Int)=>
      bif (decide (a.2.2.2.2.2.2.2.2.2.2.2.2.2<a.2.2.2.2.2.2.2.2.2.2.2.2.1))then
       (idx a.2.2.2.2.2.2.2.2.2.2.2.1 a.2.2.2.2.2.2.2.2.2.2.2.2.2).bind fun b=>
       bif a.2.2.2.2.2.2.2.2.2.2.1 then
        bif (decide (a.2.2.2.2.2.2.2.2.2.2.2.2.2>0))then
         (BP (ah b)).bind fun c=>
         (gd (a.2.2.2.2.2.2.2.2.2.1.length+[ah c].length)).bind fun _=>
         some (.inl (a.1,a.2.1,a.2.2.1,a.2.2.2.1,a.2.2.2.2.1,a.2.2.2.2.2.1,a.2.2.2.2.2.2.1,a.2.2.2.2.2.2.2.1,a.2.2.2.2.2.2.2.2.1,a.2.2.2.2.2.2.2.2.2.1++[ah c],a.2.2.2.2.2.2.2.2.2.2.1,a.2.2.2.2.2.2.2.2.2.2.2.1,a.2.2.2.2.2.2.2.2.2.2.2.2.1,w64 (a.2.2.2.2.2.2.2.2.2.2.2.2.2+1)))
        else
         (rec (ah b) a.1 a.2.1).bind fun d=>
         (gd (a.2.2.2.2.2.2.2.2.2.1.length+[ah d].length)).bind fun _=>
         some (.inl (a.1,a.2.1,a.2.2.1,a.2.2.2.1,a.2.2.2.2.1,a.2.2.2.2.2.1,a.2.2.2.2.2.2.1,a.2.2.2.2.2.2.2.1,a.2.2.2.2.2.2.2.2.1,a.2.2.2.2.2.2.2.2.2.1++[ah d],a.2.2.2.2.2.2.2.2.2.2.1,a.2.2.2.2.2.2.2.2.2.2.2.1,a.2.2.2.2.2.2.2.2.2.2.2.2.1,w64 (a.2.2.2.2.2.2.2.2.2.2.2.2.2+1)))
       else
        (rec (ah b) a.1 a.2.1).bind fun e=>
        (gd (a.2.2.2.2.2.2.2.2.2.1.length+[ah e].length)).bind fun _=>
        some (.inl (a.1,a.2.1,a.2.2.1,a.2.2.2.1,a.2.2.2.2.1,a.2.2.2.2.2.1,a.2.2.2.2.2.2.1,a.2.2.2.2.2.2.2.1,a.2.2.2.2.2.2.2.2.1,a.2.2.2.2.2.2.2.2.2.1++[ah e],a.2.2.2.2.2.2.2.2.2.2.1,a.2.2.2.2.2.2.2.2.2.2.2.1,a.2.2.2.2.2.2.2.2.2.2.2.2.1,w64 (a.2.2.2.2.2.2.2.2.2.2.2.2.2+1)))
      else
       some (.inr (af.mk a.2.2.2.2.2.2.1 a.2.2.2.2.2.2.2.1 a.2.2.2.2.2.2.2.2.1 a.2.2.2.2.2.2.2.2.2.1))
  )
noncomputable def adI(rec:af->Str->Str->Option af):RS->Option (RS⊕af):=(fun (a:Str×Str×Int×Int×Str×(List af)×Int×Int×Str×(List af)×Int×Int×Str×(List af)×Int)=>
      bif (decide (a.2.2.2.2.2.2.2.2.2.2.2.2.2.2<(a.2.2.2.2.2.1.length:Int)))then
       bif (a.2.2.1==7)then
        bif (a.2.2.2.2.2.2.2.2.2.2.2.2.2.2==1)then
         bif (a.2.2.2.2.1==a.1)then
          (idx a.2.2.2.2.2.1 a.2.2.2.2.2.2.2.2.2.2.2.2.2.2).bind fun l=>
          (vO (ah l)).bind fun h=>
          (gd (a.2.2.2.2.2.2.2.2.2.2.2.2.2.1.length+[ah h].length)).bind fun _=>
          some (.inl (a.1,a.2.1,a.2.2.1,a.2.2.2.1,a.2.2.2.2.1,a.2.2.2.2.2.1,a.2.2.2.2.2.2.1,a.2.2.2.2.2.2.2.1,a.2.2.2.2.2.2.2.2.1,a.2.2.2.2.2.2.2.2.2.1,a.2.2.2.2.2.2.2.2.2.2.1,a.2.2.2.2.2.2.2.2.2.2.2.1,a.2.2.2.2.2.2.2.2.2.2.2.2.1,a.2.2.2.2.2.2.2.2.2.2.2.2.2.1++[ah h],w64 (a.2.2.2.2.2.2.2.2.2.2.2.2.2.2+1)))
         else
          (idx a.2.2.2.2.2.1 a.2.2.2.2.2.2.2.2.2.2.2.2.2.2).bind fun m=>
          (rec (ah m) a.1 a.2.1).bind fun i=>
          (gd (a.2.2.2.2.2.2.2.2.2.2.2.2.2.1.length+[ah i].length)).bind fun _=>
          some (.inl (a.1,a.2.1,a.2.2.1,a.2.2.2.1,a.2.2.2.2.1,a.2.2.2.2.2.1,a.2.2.2.2.2.2.1,a.2.2.2.2.2.2.2.1,a.2.2.2.2.2.2.2.2.1,a.2.2.2.2.2.2.2.2.2.1,a.2.2.2.2.2.2.2.2.2.2.1,a.2.2.2.2.2.2.2.2.2.2.2.1,a.2.2.2.2.2.2.2.2.2.2.2.2.1,a.2.2.2.2.2.2.2.2.2.2.2.2.2.1++[ah i],w64 (a.2.2.2.2.2.2.2.2.2.2.2.2.2.2+1)))
        else
         (idx a.2.2.2.2.2.1 a.2.2.2.2.2.2.2.2.2.2.2.2.2.2).bind fun n=>
         (rec (ah n) a.1 a.2.1).bind fun j=>
         (gd (a.2.2.2.2.2.2.2.2.2.2.2.2.2.1.length+[ah j].length)).bind fun _=>
         some (.inl (a.1,a.2.1,a.2.2.1,a.2.2.2.1,a.2.2.2.2.1,a.2.2.2.2.2.1,a.2.2.2.2.2.2.1,a.2.2.2.2.2.2.2.1,a.2.2.2.2.2.2.2.2.1,a.2.2.2.2.2.2.2.2.2.1,a.2.2.2.2.2.2.2.2.2.2.1,a.2.2.2.2.2.2.2.2.2.2.2.1,a.2.2.2.2.2.2.2.2.2.2.2.2.1,a.2.2.2.2.2.2.2.2.2.2.2.2.2.1++[ah j],w64 (a.2.2.2.2.2.2.2.2.2.2.2.2.2.2+1)))
       else
       bif (a.2.2.1==9)then
        bif (a.2.2.2.2.2.2.2.2.2.2.2.2.2.2==1)then
         bif (a.2.2.2.2.1==a.1)then
          (idx a.2.2.2.2.2.1 a.2.2.2.2.2.2.2.2.2.2.2.2.2.2).bind fun o=>
          (vO (ah o)).bind fun k=>
          (gd (a.2.2.2.2.2.2.2.2.2.2.2.2.2.1.length+[ah k].length)).bind fun _=>
          some (.inl (a.1,a.2.1,a.2.2.1,a.2.2.2.1,a.2.2.2.2.1,a.2.2.2.2.2.1,a.2.2.2.2.2.2.1,a.2.2.2.2.2.2.2.1,a.2.2.2.2.2.2.2.2.1,a.2.2.2.2.2.2.2.2.2.1,a.2.2.2.2.2.2.2.2.2.2.1,a.2.2.2.2.2.2.2.2.2.2.2.1,a.2.2.2.2.2.2.2.2.2.2.2.2.1,a.2.2.2.2.2.2.2.2.2.2.2.2.2.1++[ah k],w64 (a.2.2.2.2.2.2.2.2.2.2.2.2.2.2+1)))
         else
          (idx a.2.2.2.2.2.1 a.2.2.2.2.2.2.2.2.2.2.2.2.2.2).bind fun e=>
          (rec (ah e) a.1 a.2.1).bind fun b=>
          (gd (a.2.2.2.2.2.2.2.2.2.2.2.2.2.1.length+[ah b].length)).bind fun _=>
          some (.inl (a.1,a.2.1,a.2.2.1,a.2.2.2.1,a.2.2.2.2.1,a.2.2.2.2.2.1,a.2.2.2.2.2.2.1,a.2.2.2.2.2.2.2.1,a.2.2.2.2.2.2.2.2.1,a.2.2.2.2.2.2.2.2.2.1,a.2.2.2.2.2.2.2.2.2.2.1,a.2.2.2.2.2.2.2.2.2.2.2.1,a.2.2.2.2.2.2.2.2.2.2.2.2.1,a.2.2.2.2.2.2.2.2.2.2.2.2.2.1++[ah b],w64 (a.2.2.2.2.2.2.2.2.2.2.2.2.2.2+1)))
        else
         (idx a.2.2.2.2.2.1 a.2.2.2.2.2.2.2.2.2.2.2.2.2.2).bind fun f=>
         (rec (ah f) a.1 a.2.1).bind fun c=>
         (gd (a.2.2.2.2.2.2.2.2.2.2.2.2.2.1.length+[ah c].length)).bind fun _=>
         some (.inl (a.1,a.2.1,a.2.2.1,a.2.2.2.1,a.2.2.2.2.1,a.2.2.2.2.2.1,a.2.2.2.2.2.2.1,a.2.2.2.2.2.2.2.1,a.2.2.2.2.2.2.2.2.1,a.2.2.2.2.2.2.2.2.2.1,a.2.2.2.2.2.2.2.2.2.2.1,a.2.2.2.2.2.2.2.2.2.2.2.1,a.2.2.2.2.2.2.2.2.2.2.2.2.1,a.2.2.2.2.2.2.2.2.2.2.2.2.2.1++[ah c],w64 (a.2.2.2.2.2.2.2.2.2.2.2.2.2.2+1)))
       else
        (idx a.2.2.2.2.2.1 a.2.2.2.2.2.2.2.2.2.2.2.2.2.2).bind fun g=>
        (rec (ah g) a.1 a.2.1).bind fun d=>
        (gd (a.2.2.2.2.2.2.2.2.2.2.2.2.2.1.length+[ah d].length)).bind fun _=>
        some (.inl (a.1,a.2.1,a.2.2.1,a.2.2.2.1,a.2.2.2.2.1,a.2.2.2.2.2.1,a.2.2.2.2.2.2.1,a.2.2.2.2.2.2.2.1,a.2.2.2.2.2.2.2.2.1,a.2.2.2.2.2.2.2.2.2.1,a.2.2.2.2.2.2.2.2.2.2.1,a.2.2.2.2.2.2.2.2.2.2.2.1,a.2.2.2.2.2.2.2.2.2.2.2.2.1,a.2.2.2.2.2.2.2.2.2.2.2.2.2.1++[ah d],w64 (a.2.2.2.2.2.2.2.2.2.2.2.2.2.2+1)))
      else
       some (.inr (af.mk a.2.2.2.2.2.2.2.2.2.2.1 a.2.2.2.2.2.2.2.2.2.2.2.1 a.2.2.2.2.2.2.2.2.2.2.2.2.1 a.2.2.2.2.2.2.2.2.2.2.2.2.2.1))
  )
theorem UZ(rec)(a:af)(b c:Str):BL rec a b c=ak (adJ rec) (b,c,0,0,[],[],a.kind,a.n,dG b c a.kind a.text,[],kK b a.kind a.text,a.args,(a.args.length:Int),0):=by
 unfold BL dG kK;cases (a.kind==3)<;>cases (a.kind==7)<;>cases (a.kind==9)<;>cases (a.text==b)<;>rfl
theorem TR(rec)(a:af)(b c:Str):uq rec a b c=ak (adI rec) (b,c,a.kind,a.n,a.text,a.args,0,0,[],[],a.kind,a.n,dG b c a.kind a.text,[],0):=by
 unfold uq dG;cases (a.kind==3)<;>cases (a.text==b)<;>rfl
theorem aau(b c:Str):∀(n:Nat) (e:af),siz e<n->wtE e<=1048576->wE n e b c=some (kG b c e)
 | 0,e,h,_=>absurd h (Nat.not_lt_zero _)
 | n+1,e,g,j=>by
  have ih:=aau b c n;have k:=oJ (e:=e);show BL (wE n) e b c=_
  rw[UZ,FB];generalize kK b e.kind e.text=bi;refine BF (fun (out:List af) (i:Nat)=>((b,c,0,0,[],[],e.kind,e.n,dG b c e.kind e.text,out,bi,e.args,(e.args.length:Int),(i:Int)):RI)) e.args (fun i x=>if (bi&&decide (0<i))=true then x else kG b c x) _ (fun i x out a l=>?_) ?_
  ·have f:=zG a;have m:=lT f;have hi:=(zC.1 a).1;have o:=dI f;simp only[adJ,bW a,ac,au,a,zA,aH,ih x (by omega) (by omega),Ve x (by omega),bT a (by omega),Uz];have d:∀y:af,gd (out.length+[y].length)=some ():=fun y=>gdp (by simp;omega)
   cases bi with
   | false=>
    simp only[aa,Bool.false_and,aL,if_false,d,zA]
   | true=>
    cases decide (0<i)with
    | true=>simp only[ac,Bool.true_and,if_true,d,zA]
    | false=>simp only[ac,aa,Bool.true_and,aL,if_false,d,zA]
  ·simp only[adJ,bG,aa,Fz]
theorem Ut(b c:Str):∀(n:Nat) (e:af),siz e<n->wtE e<=1048576->jA e->qo n e b c=some (kG b c e)
 | 0,e,h,_,_=>absurd h (Nat.not_lt_zero _)
 | n+1,e,l,m,hv=>by
  have ih:=Ut b c n;have o:=oJ (e:=e);cases hv with
  | mk _ g hsub=>
  show uq (qo n) e b c=_
  rw[TR,FB];refine BF (fun (out:List af) (i:Nat)=>((b,c,e.kind,e.n,e.text,e.args,0,0,[],[],e.kind,e.n,dG b c e.kind e.text,out,(i:Int)):RS)) e.args (fun i x=>if (kK b e.kind e.text&&decide (0<i))=true then x else kG b c x) _ (fun i x out a p=>?_) ?_
  ·have d:=zG a;have q:=lT d;have hi:=(zC.1 a).1;have r:=dI d;have hone:e.kind=7\/e.kind=9->((i:Int)==1)=decide (0<i):=by
    intro j;have:=g.two j;by_cases h:0<i
    ·have:i=1:=by omega
     subst this;rfl
    ·have:i=0:=by omega
     subst this;rfl
   simp only[adI,bW a,ac,au,a,zA,aH,ih x (by omega) (by omega) (hsub x d),Wi x (by omega),bT a (by omega)];have f:∀y:af,gd (out.length+[y].length)=some ():=fun y=>gdp (by simp;omega)
   unfold kK;cases k:(e.kind==7)with
   | true=>
    rw[hone (.inl (eq_of_beq k))];cases decide (0<i)<;>cases (e.text==b)<;>simp only[ac,aa,Bool.true_or,Bool.true_and,Bool.and_true,Bool.and_false,Bool.false_and,aL,if_true,if_false,f,zA]
   | false=>
    cases k9:(e.kind==9)with
    | true=>
     rw[hone (.inr (eq_of_beq k9))];cases decide (0<i)<;>cases (e.text==b)<;>simp only[ac,aa,Bool.false_or,Bool.true_and,Bool.and_true,Bool.and_false,Bool.false_and,aL,if_true,if_false,f,zA]
    | false=>simp only[aa,Bool.false_or,Bool.false_and,aL,if_false,f,zA]
  ·simp only[adI,bG,aa,Fz]
mutual
theorem Uu(b c:Str)(d:c.length<=120):∀e:af,wtE (kG b c e)<=wtE e
 | ⟨k,n,t,a⟩=>by
  have f:=aat b c d a (kK b k t) 0;show (if (dG b c k t).length<=120 then 1 else 18446744073709551616)+wtL (mr b c (kK b k t) 0 a)<=(if t.length<=120 then 1 else 18446744073709551616)+wtL a
  have g:(if (dG b c k t).length<=120 then 1 else 18446744073709551616)<=(if t.length<=120 then 1 else 18446744073709551616):=by
   unfold dG;split
   ·split<;>omega
   ·exact az _
  omega
theorem aat(b c:Str)(a:c.length<=120):∀(xs:List af) (bi:Bool) (i:Nat),wtL (mr b c bi i xs)<=wtL xs
 | [],_,_=>az _
 | x::r,bi,i=>by
  have d:=Uu b c a x;have e:=aat b c a r bi (i+1);show wtE (if (bi&&decide (0<i))=true then x else kG b c x)+wtL (mr b c bi (i+1) r)<=wtE x+wtL r
  split<;>omega
end
end Go.Proofs.YtkebfkahdmddpaaGreatDoor
