import Derived.DataReads
import Derived.ChangeArms
import Derived.OpenShut
import Derived.ChangeSame
import Derived.Test.YtmflfedkfdkipaaGreatP7
set_option linter.all false
open List Go.IntKind
open Nat hiding beq_eq
namespace Go.Vx
open Go Go.Rx
def qxw{c j:Type}{f:c->V j}:∀{l:X c}{r:X j},l.mapM f=some r->r.length=l.length/\∀(i:Nat)(a:c),l[i]? = some a->∃b,r[i]? = some b/\f a=some b
 |[],r,h=>by simp at h;subst h;simp
 |a::l,r,h=>by
  simp[IS,bind,Option.bind]at h;rcases e:f a with _|b;simp[e]at h;simp[e]at h;rcases g:l.mapM f with _|r';simp[g]at h;simp[g,pure]at h;subst h;have⟨g1,g2⟩:=qxw g;refine⟨by simp[g1],fun i x d=>?_⟩;cases i with
  |zero=>simp at d;subst d;exact⟨b,rfl,e⟩|succ i=>simp at d;simpa using g2 i x d
def th(W:Ep):∀(l:X U)(b:X Value),oL W l b↔∀(i:Nat)(u:U),l[i]? = some u->∃v,b[i]? = some v/\dF W u v
 |[],b=>by simp[oL]
 |u::e,[]=>by simp only[oL,ML];intro h;have⟨v,f,_⟩:=h 0 u rfl;simp at f
 |u::e,v::b=>by
  simp[oL,th W e b];constructor;rintro⟨c,d⟩ i w a;cases i with
  |zero=>simp at a;subst a;exact⟨v,rfl,c⟩|succ i=>simp at a;simpa using d i w a
  intro h;refine⟨?_,fun i w a=>by simpa using h (i+1) w (by simpa using a)⟩;have⟨g,c,d⟩:=h 0 u rfl;simp at c;subst c;exact d
def z59{W:Ep}{e:Nat}:∀{l:X (X U)}{a:X Value},(∀(i:Nat)(c:X U),l[i]? = some c->c.length=e/\I8 c=true/\oL W c (a.drop<|i*e))->P9 W e l a
 |[],a,h=>by simp[P9]
 |d::l,a,h=>by simp[P9];have b:=h 0 d rfl;refine⟨b.1,b.2.1,by simpa using b.2.2,z59 fun i c f=>?_⟩;have:=h (i+1) c (by simpa using f);rw[kh];rw[eM,zv]at this;exact this
def Uj(P:Ua):Nat->X Field->Nat->FK
 |o,[],n=>Nat.beq o n|o,f::a,n=>cond (Nat.beq f.offset o) (Uj P (o+P.cellsOf f.type) a n) false
def An(P:Ua)(a:X TypeId)(t:TypeId):FK:=match P.underlying t with
 |some .bool=>true|some (.int _)=>true
 |some .string=>true|some (.slice e)=>cond (a.any<|Nat.beq e) (blt 0<|P.cellsOf e) false
 |some (.struct b)=>cond (Uj P 0 b.toList<|P.cellsOf t) (b.toList.all fun f=>a.any<|Nat.beq f.type) false|some (.array n e)=>cond (a.any<|Nat.beq e) (Nat.beq (P.cellsOf t)<|n*P.cellsOf e) false
 |_=>false
def gY(P:Ua)(a:X TypeId):FK:=a.all (An P a)
def qup{a:X TypeId}{e:TypeId}(h:a.any (Nat.beq e)=true):e∈a:=by
 have⟨x,b,c⟩:=any_eq_true.1 h;have:e=x:=by simpa[beq_eq]using c
 rw[this];exact b
def qp7{W:Ep}{P:Ua}{fuel:Nat}{cs:X Value}:∀(b:X Field)(o n:Nat),Uj P o b n=true->n<=cs.length->
  (∀f∈b,∃a,oL W a ((cs.drop f.offset).take (P.cellsOf f.type))/\a.length=((cs.drop f.offset).take (P.cellsOf f.type)).length/\I8 a=true/\J3 P fuel f.type a)->
  ∃a,oL W a (cs.drop o)/\a.length=n-o/\I8 a=true/\o<=n/\∀f∈b,o<=f.offset/\J3 P fuel f.type ((a.drop<|f.offset-o).take (P.cellsOf f.type))
 |[],o,n,e,m,h=>by
  have:o=n:=by simpa[Uj,beq_eq]using e
  subst this;exact⟨[],by simp[oL],by simp,rfl,zF _,by simp⟩
 |f::b,o,n,e,m,h=>by
  simp only[Uj]at e;have⟨t,w⟩:=O6 e;have p:f.offset=o:=by simpa[beq_eq]using t
  have⟨a,g1,g2,r,A,s⟩:=qp7 b _ n w m fun x c=>h x (by simp[c]);obtain⟨l,k,q,y,z⟩:=h f aZ;rw[p]at k q;have j:l.length=P.cellsOf f.type:=by rw[q];simp;omega
  refine⟨l++a,?_,by simp[j,g2];omega,VE y r,by omega,fun x c=>?_⟩;rw[th]at k g1 ⊢;intro i u g;rw[Ki]at g;split at g;rename_i d;have⟨v,q1,q2⟩:=k i u g;rw[jz]at q1;rw[j]at d;simp only[d,It]at q1;exact⟨v,q1,q2⟩;rename_i d;have⟨v,q1,q2⟩:=g1 _ u g;rw[pc]at q1 ⊢;exact⟨v,by rw[j]at q1 d;rw[show o+i=o+P.cellsOf f.type+(i-P.cellsOf f.type) by omega];exact q1,q2⟩;obtain rfl |c:=zI.1 c;refine⟨by omega,?_⟩;rw[p,mi,Za,<-j,SI rfl];exact z;have⟨q1,q2⟩:=s x c;refine⟨by omega,?_⟩;rw[show x.offset-o=l.length+(x.offset-(o+P.cellsOf f.type)) by omega,qcs,Ii af,X0,qi];exact q2
def qsd{W:Ep}{P:Ua}{fuel:Nat}{cs:X Value}{e:TypeId}{sz:Nat}:∀(n:Nat),n*sz<=cs.length->
  (∀i,i<n->∃a,oL W a ((cs.drop<|i*sz).take sz)/\a.length=((cs.drop<|i*sz).take sz).length/\I8 a=true/\J3 P fuel e a)->
  ∃a,oL W a cs/\a.length=n*sz/\I8 a=true/\∀i,i<n->J3 P fuel e ((a.drop<|i*sz).take sz)
 |0,c,h=>⟨[],by simp[oL],by simp,rfl,by simp⟩|n+1,c,h=>by
  rw[eM]at c;have⟨a,g1,g2,k,l⟩:=qsd n af fun i m=>h i af;have⟨g,d,o,p,q⟩:=h n af;have f:g.length=sz:=by rw[o];simp;omega
  refine⟨a++g,?_,by rw[zU,g2,f,eM],VE k p,fun i m=>?_⟩;rw[th]at d g1 ⊢;intro i u b;rw[Ki]at b;split at b;exact g1 i u b;rename_i j;have⟨v,q1,q2⟩:=d _ u b;rw[jz]at q1;split at q1;rw[pc]at q1;exact⟨v,by rw[g2]at q1 j;rw[show i=n*sz+(i-n*sz) by omega];exact q1,q2⟩;cases q1;by_cases i8:i<n;have:=l i i8;have r:i*sz+sz<=a.length:=by rw[g2,<-eM];exact tp _ i8
  rw[xn af,Ar (by simp;omega)];exact this;have:i=n:=by omega
  subst this;rw[<-g2,drop_left' rfl,<-f,js];exact q
section
variable{H:Type}{enc:TypeId×Value->H}{P:Ua}{W:Ep}{g:X TypeId}(w:gY P g=true)
include w
omit w in
def J!{a:Addr}{n:Nat}{j:X Value}(q:0<n)(h:W.cells? 0 a n=some j):∃c e fr,a.spot=none/\W.heap[a.block]? = some (.cells c e fr)/\j.length=n/\∀(k:Nat)(v:Value),j[k]? = some v->c.toList[a.off+k]? = some v:=by
 unfold World.cells? at h;simp[qq,It]at h;have⟨g1,g2⟩:=qxw h;have⟨v0,r,f⟩:=g2 0 0 (by simp[q]);have i:a.spot=none:=by have:=World.cell?_spot f;simpa[Addr.add]using this
 have d:∀k,a.add k=⟨a.block,a.off+k,none⟩:=fun k=>by have⟨b,o,s⟩:=a;simp only at i;subst i;exact HR b o k
 rw[d]at f;unfold World.cell? at f;rcases l:W.heap[a.block]? with _|o;simp[l]at f;cases o with
 |cells c e fr=>
  refine⟨c,e,fr,i,rfl,by simpa using g1,fun k v m=>?_⟩;have p:k<n:=by have:=(zG.1 m).1;rw[g1]at this;simpa using this
  have⟨t,q1,q2⟩:=g2 k k (by simp[p]);rw[m]at q1;cases q1;rw[d]at q2;simp[World.cell?,l]at q2;simpa using q2
 |_=>simp[l]at f
def eu:∀(fuel:Nat)(t:TypeId),t∈g->∀(cs:X Value)(x:DataW H×X MemPlace),DataW.trod enc P W 0 (fun _=>true) true fuel t cs=some x->∃j,oL W j cs/\j.length=cs.length/\I8 j=true/\J3 P fuel t j
 |0,t,ht,cs,x,h=>by simp[DataW.trod]at h
 |fuel+1,t,ht,cs,x,h=>by
  have z:=all_eq_true.1 w t ht;unfold An at z;rcases q:P.underlying t with _|d;simp[q]at z;cases d with
  |bool=>obtain⟨b,rfl,_⟩:=DataW.trod_bool q h;exact⟨[.bool b],by simp[oL,dF],rfl,rfl,by simp[J3,q]⟩
  |int k=>obtain⟨n,rfl,_,S5⟩:=DataW.trod_int q h;exact⟨[.int k n],by simp[oL,dF],rfl,rfl,by simp[J3,q,S5]⟩
  |string=>obtain⟨s,rfl,_,L⟩:=DataW.trod_string q h;refine⟨[.str s.data.toList],by simp[oL,dF],rfl,rfl,?_⟩;simp only[J3,q];exact⟨_,rfl,by simpa using L⟩
  |slice e=>
   simp only[q]at z;have⟨D,jK⟩:=O6 z;have he:=qup D;have L:0<P.cellsOf e:=Cj jK;obtain⟨rfl,_⟩|⟨a,len,cap,S,A,n,U_,rfl,_,_,S_,hcm,aT,N,AC,_⟩:=DataW.trod_slice q h;refine⟨[.O false []],by simp[oL,dF],rfl,rfl,?_⟩;simp only[J3,q];exact⟨[],rfl,by simp,by simp⟩;have hn:n=fuel:=by omega
   subst hn;have jN:cap<dC:=by unfold dC;unfold maxLen at hcm;omega
   have K:∀i,i<len->∃j,j.length=P.cellsOf e/\I8 j=true/\J3 P n e j/\∃c F fr,a.spot=none/\W.heap[a.block]? = some (.cells c F fr)/\oL W j (c.toList.drop<|a.off+i*P.cellsOf e):=by
    intro i r;have y:=N i r;have Z:S[i]? = some S[i]:=by simp[aT,r]
    rw[Z]at y;rcases hc:W.cells? 0 (a.add<|i*P.cellsOf e) (P.cellsOf e)with _|ci;simp[hc]at y;simp[hc,qcp]at y;have⟨j,r1,r2,r3,r4⟩:=eu n e he ci _ y;have⟨c,F,fr,k1,k2,k3,k4⟩:=J! L hc;have T:a.spot=none:=by
     have C:=N 0 af;have h4:S[0]? = some (S[0]' af):=by simp[aT,show 0<len by omega]
     rw[h4]at C;rcases J:W.cells? 0 (a.add<|0*P.cellsOf e) (P.cellsOf e)with _|c0;rw[J]at C;cases C;obtain⟨_,_,_,q1,_⟩:=J! L J;simpa[Addr.add]using q1
    have M:a.add (i*P.cellsOf e)=⟨a.block,a.off+i*P.cellsOf e,none⟩:=by obtain⟨b,o,sp⟩:=a;simp only at T;subst T;exact HR b o _
    rw[M]at k2 k4;refine⟨j,by rw[r2,k3],r3,r4,c,F,fr,T,k2,?_⟩;rw[th]at r1 ⊢;intro k u hu;have⟨v,q1,q2⟩:=r1 k u hu;exact⟨v,by rw[pc];exact k4 k v q1,q2⟩
   have all:∀m,m<=len->∃l:X (X U),l.length=m/\∀(i:Nat)(j:X U),l[i]? = some j->j.length=P.cellsOf e/\I8 j=true/\J3 P n e j/\∃c F fr,a.spot=none/\W.heap[a.block]? = some (.cells c F fr)/\oL W j (c.toList.drop<|a.off+i*P.cellsOf e):=by
    intro m;induction m with
    |zero=>intro _;exact⟨[],rfl,by simp⟩|succ m ih=>
     intro hm;have⟨l,G,Q⟩:=ih af;have⟨j,E⟩:=K m af;refine⟨l++[j],by simp[G],fun i vs B=>?_⟩;rw[Ki]at B;split at B;exact Q i vs B;rename_i LF;have:i=m:=by have:=(zG.1 B).1;simp at this;omega
     subst this;rw[G,mi]at B;simp at B;subst B;exact E
   obtain⟨l,G,Q⟩:=all len<|zF _;refine⟨[.O false l],?_,rfl,rfl,?_⟩;simp only[oL,cO,dF,dG];by_cases I9:l=[];subst I9;simp at G;subst G;obtain⟨b,o,sp⟩:=a;obtain _|p:=sp;exact .inr ⟨b,o,cap,rfl,jN,qq _,.inl rfl⟩;obtain h0 |hp:=Hb cap;subst h0;exact .inl ⟨rfl,.inr ⟨b,o,p,rfl⟩⟩;exfalso;have⟨s1,s2⟩:=AC rfl;have C:=s2 0 af;have h4:A[0]? = some (A[0]' af):=by simp[s1,hp]
   rw[h4]at C;rcases J:W.cells? 0 (Addr.add ⟨b,o,some p⟩<|(0+0)*P.cellsOf e) (P.cellsOf e)with _|c0;rw[J]at C;cases C;obtain⟨_,_,_,q1,_⟩:=J! L J;simp[Addr.add]at q1;obtain⟨Lk,O⟩:∃Lk,l[0]? = some Lk:=by cases l with
    |nil=>exact absurd rfl I9|cons a l=>exact⟨a,rfl⟩
   obtain⟨_,_,_,c,F,fr,Qq,hw,_⟩:=Q 0 Lk O;refine .inr ⟨a.block,a.off,cap,by obtain⟨b,o,sp⟩:=a;simp only at Qq;subst Qq;rw[G],jN,by omega,.inr ⟨c,F,fr,P.cellsOf e,hw,z59 fun i j r=>?_⟩⟩;obtain⟨q1,q2,_,c',ty',fr',_,nZ,q3⟩:=Q i j r;rw[hw]at nZ;cases nZ;exact⟨q1,q2,by rw[kh];exact q3⟩;simp only[J3,q];refine⟨l,rfl,by omega,fun j E=>?_⟩;have⟨i,r⟩:=mem_iff_getElem?.1 E;exact(Q i j r).2.2.1
  |struct fs=>
   simp only[q]at z;have⟨W_,c5⟩:=O6 z;have⟨I,m,U_,_,hl,V,hf⟩:=DataW.trod_struct q h;have hm:m=fuel:=by omega
   subst hm;obtain⟨j,g1,g2,Y,_,g5⟩:=qp7 (W:=W) (P:=P) (fuel:=m) (cs:=cs) fs.toList 0 (P.cellsOf t) W_ af fun f R=>by
    have⟨i,r⟩:=mem_iff_getElem?.1 R;have y:=hf i f (by simpa using r);have Z:i<I.length:=by rw[V];have:=(zG.1 r).1;simpa using this
    rw[show I[i]? = some I[i] by simp[Z]]at y;exact eu m f.type (qup<|all_eq_true.1 c5 f R) _ _ y
   refine⟨j,by simpa using g1,by omega,Y,?_⟩;simp only[J3,q];exact⟨by omega,fun f R=>by simpa using(g5 f R).2⟩
  |array n e=>
   simp only[q]at z;have⟨D,jM⟩:=O6 z;have he:=qup D;have⟨I,m,U_,_,hl,V,hf⟩:=DataW.trod_array q h;have hm:m=fuel:=by omega
   subst hm;have X_:P.cellsOf t=n*P.cellsOf e:=by simpa[beq_eq]using jM
   obtain⟨j,g1,g2,Y,g4⟩:=qsd (W:=W) (P:=P) (fuel:=m) (cs:=cs) (e:=e) (sz:=P.cellsOf e) n af fun i r=>by have y:=hf i r;rw[show I[i]? = some I[i] by simp[V,r]]at y;exact eu m e he _ _ y
   refine⟨j,g1,by omega,Y,?_⟩;simp[J3,q];exact⟨by omega,g4⟩
  |_=>simp[q]at z
def Z8(P:Ua)(t:TypeId)(u:U):Prop:=∃a b,J3 P a t b/\match P.underlying t with
 |some (.struct _)=>u=.agg b|some (.array _ _)=>u=.agg b
 |_=>b=[u]
def iY(P:Ua):X TypeId->X U->Prop
 |[],a=>a=[]|t::c,a=>∃u b,a=u::b/\Z8 P t u/\iY P c b
def zbj{t:TypeId}(q:t∈g){v:Value}{d:DataW H}{A:X MemPlace}{r:Reach}{s:Nat}(b:Value.okWide P W r s t v)(h:DataW.Trod enc P W 0 (fun _=>true) true t v d A):∃u,dF W u v/\Z8 P t u:=by
 have⟨c,z⟩:=h;have⟨o,j,m,y,p⟩:=eu w c t q _ _ z;have l:=all_eq_true.1 w t q;unfold An at l;have one:v.cells.toList=[v]->(match P.underlying t with
   |some (.struct _)=>False|some (.array _ _)=>False
   |_=>True)->∃u,dF W u v/\Z8 P t u:=fun i hm=>by
  rw[i]at j m
  match o,m with
  |[u],_=>simp[oL,cO]at j;refine⟨u,j,c,[u],p,?_⟩;split<;>simp_all
 have agg:(∃f,v=.agg f)->(match P.underlying t with
   |some (.struct _)=>True|some (.array _ _)=>True
   |_=>False)->∃u,dF W u v/\Z8 P t u:=fun⟨f,i⟩ hm=>by
  subst i;refine⟨.agg o,?_,c,o,p,?_⟩;simp[dF];exact⟨f.toList,rfl,j,m,y⟩;split<;>simp_all
 unfold Value.okWide at b;rcases a:P.underlying t with _|x;simp[a]at l;cases x with
 |struct B=>simp[a]at b;have⟨f,i,_⟩:=b;exact agg ⟨f,i⟩ (by simp[a])
 |array n e=>simp[a]at b;have⟨f,i,_⟩:=b;exact agg ⟨f,i⟩ (by simp[a])
 |bool=>refine one ?_ (by simp[a]);simp[a,Cell.okWide]at b;cases v<;>first |rfl |(simp[Cell.ok,a]at b)
 |int k=>refine one ?_ (by simp[a]);simp[a,Cell.okWide]at b;cases v<;>first |rfl |(simp[Cell.ok,a]at b)
 |string=>refine one ?_ (by simp[a]);simp[a,Cell.okWide]at b;cases v<;>first |rfl |(simp[Cell.ok,a]at b)
 |slice e=>refine one ?_ (by simp[a]);simp[a,Cell.okWide]at b;cases v<;>first |rfl |(simp[Cell.ok,a]at b)
 |_=>simp[a]at l
def hP:∀{i:X TypeId}{k:X Value}{l:X (DataW H)}{e:X MemPlace}{r:Reach}{a:Nat},(∀t∈i,t∈g)->(∀(j:Nat) t v,i[j]? = some t->k[j]? = some v->Value.okWide P W r a t v)->DataW.TrodAll enc P W 0 (fun _=>true) true i k l e->
  ∃f,oL W f k/\f.length=k.length/\iY P i f
 |[],[],[],e,r,a,c,b,h=>⟨[],by simp[oL],rfl,rfl⟩|t::i,v::k,d::l,e,r,a,c,b,h=>by have⟨p,q,m,n,_⟩:=h;have⟨u,g1,g2⟩:=zbj w (c t aZ) (b 0 t v rfl rfl) m;have⟨f,A,B,C⟩:=hP (fun x z=>c x<|by simp[z]) (fun j x y o s=>b (j+1) x y (by simpa using o)<|by simpa using s) n;exact⟨u::f,by simp[oL,g1,A],by simp[B],u,f,rfl,g2,C⟩
 |[],_::_,_,e,r,a,c,b,h=>by simp[DataW.TrodAll]at h
 |[],[],_::_,e,r,a,c,b,h=>by simp[DataW.TrodAll]at h
 |_::_,[],_,e,r,a,c,b,h=>by simp[DataW.TrodAll]at h
 |_::_,_::_,[],e,r,a,c,b,h=>by simp[DataW.TrodAll]at h
end
def S4:V nT->V nT
 |some (.inl (l,e,1))=>some (.inl (l,e,1))|_=>none
def Lc(g:Nat->V nT):Hp->Hp
 |[]=>[]|(i,_)::h=>match g i with
  |some b=>(i,b)::Lc g h|none=>Lc g h
def z32(g:Nat->V nT):∀(h:Hp)(i:Nat),lk (Lc g h) i=(match lk h i with |some _=>g i |none=>none)
 |[],i=>by simp[Lc,lk]
 |(j,b)::h,i=>by
  have a:=z32 g h i;simp[Lc];cases d:g j with
  |none=>simp[nU];by_cases e:j=i;subst e;simp[It];rw[a,d];split<;>rfl;simp[e,MF];exact a|some c=>simp[nU];by_cases e:j=i;subst e;simp[d];simp[e,MF];exact a
def CX(s:S):S:=⟨Lc (fun i=>S4<|lk s.h i) s.h,s.nx⟩
def O3(s:S)(i:Nat):lk (CX s).h i=S4 (lk s.h i):=by simp[CX,z32];rcases h:lk s.h i with _|b;rfl;simp
def VB{o:V nT}{b:nT}(h:S4 o=some b):o=some b/\∃l e,b=.inl (l,e,1):=by unfold S4 at h;split at h;simp at h;subst h;exact⟨rfl,_,_,rfl⟩;cases h
def qpa(s:S):Hy s (CX s):=⟨zF _,fun i b a=>by rw[O3]at a;exact(VB a).1⟩
def b7.view{P:Ua}{f:FuncId}{args a:X U}{Y:Sg}{u:U}{v:Value}(h:b7 P f args ⟨[],0⟩ (fun g _=>g=u/\aW 0 g))(ha:aH 0 args)(I:cf u=some v)(z:∀m,H3 m v=v){S:Sg}(hg:Gh 0 a Y args S):b7 P f a Y (fun g R=>g=u/\R=Y):=fun F x N m w j J H D he B V=>by
 have⟨n,T,a2,a3,a4,a5,a6⟩:=hg F x N J H D he;have L:=T m w B;have C:=bS.less L.fits<|qpa n.s;have Z:Mo 0 n (cx<|CX n.s):=⟨fun k hk=>af,fun i row e hl=>by show lk (CX n.s).h i=_;rw[O3,hl];rfl⟩;have W:∀b,¬ TN m (CX n.s) b:=fun b ⟨i,c,G,ho,_⟩=>by rw[O3]at G;obtain⟨_,l,e,rfl⟩:=VB G;simp[gQ]at ho
 refine(h (fun _ _=>False) (cx<|CX n.s) N m w j rfl ⟨fun k b d=>by simp[cx,gt]at d,fun k k' b b' i d=>by simp[cx,gt]at d,fun i b d=>?_⟩ (fun _ _ O=>O.elim) (Z.ke.E ha a5) C.fits (V.ext (aP.refl _ _)<|Zt L.nx C.nx)).mono ?_;have A:lk (CX n.s).h i=some b:=d;rw[O3]at A;exact a3.bd i b (VB A).1;rintro e yM ⟨y2,G7,g,M,p,rfl,⟨rfl,_⟩,o,jJ,_,_,Q,_,_⟩;have hv:=(NU g v I y2 M).1 Q;subst hv;have t:p=M:=by rw[<-jJ.at,z]
 subst t;have K:∀b,b<w.heap.size->yM.heap[b]? = w.heap[b]?:=fun b r=>o.same b r<|W b;refine⟨x,m,g,p,p,rfl,⟨rfl,J⟩,⟨aP.refl _ _,zF _,fun y kX=>?_,fun b h=>.inl h,fun b r _=>K b r,o.size,o.os,o.tape,o.output⟩,fun y _=>z y,H,D,(NU g p I x p).2 rfl,Ke.refl _ _,zF _⟩;have q:=B y kX;exact⟨fun i b d=>(q.ok i b d).world (K _<|q.size d),q.inj,q.bd⟩
abbrev RK:=Nat×eX
def RH(P:Ua)(T:Tb)(c:X Oper):X Oper->X U->Sg->X RK->(X RK->X U->Sg->Prop)->Prop
 |[],a,Y,e,K=>K e a Y|o::r,a,Y,e,K=>(cE c a o=some true/\∃u,bJ T Y a o.op=some (u,Y)/\RH P T c r (eS a o.dst u) Y ((1,⟨a,o,u,false,false,Y,Y⟩)::e) K)\/ (cE c a o=some true/\∃u b,bJ T Y a o.op=some (u,b)/\RH P T c r (eS a o.dst u) b ((3,⟨a,o,u,true,true,Y,b⟩)::e) K)\/ (cE c a o=some true/\∃f args u,kQ T a o.op=some (f,args)/\b7 P f args Y (fun h b=>h=u/\b=Y)/\RH P T c r (eS a o.dst u) Y ((2,⟨a,o,u,true,false,Y,Y⟩)::e) K)\/ (cE c a o=some true/\∃f args u b,kQ T a o.op=some (f,args)/\b7 P f args Y (fun h j=>h=u/\j=b)/\RH P T c r (eS a o.dst u) b ((3,⟨a,o,u,true,true,Y,b⟩)::e) K)\/ (cE c a o=some false/\RH P T c r (eS a o.dst<|.a7 []) Y ((0,⟨a,o,.a7 [],false,false,Y,Y⟩)::e) K)\/ (cE c a o=some true/\∃u,uY P T a o.op u/\RH P T c r (eS a o.dst u) Y ((0,⟨a,o,u,false,false,Y,Y⟩)::e) K)\/ (cE c a o=some true/\∃i g d u b,bJ T Y a o.op=some (i,g)/\o.dst=some d/\d<a.length/\Gh g.nx [i] g [u] b/\g.nx<=b.nx/\RH P T c r (eS a o.dst u) b ((3,⟨a,o,u,true,true,Y,b⟩)::e) K)
def kindOk(T:Tb)(a:X Oper)(x:RK):Prop :=
 (x.1=0/\(cE a x.2.tm x.2.o=some false\/bJ T x.2.s x.2.tm x.2.o.op≠some (x.2.u,x.2.s'))/\x.2.act=false/\x.2.mv=false)\/(x.1=1/\x.2.act=false/\x.2.mv=false)\/(x.1=2/\x.2.act=true/\x.2.mv=false)\/(x.1=3/\x.2.act=true/\x.2.mv=true)
def RD.mono{P:Ua}{T:Tb}{m:X Oper}:∀{c:X Oper}{j:X U}{Y:Sg}{K l:X eX->X U->Sg->Prop},(∀n j Y,K n j Y->l n j Y)->RD P T m c j Y K->RD P T m c j Y l
 |[],j,Y,K,l,g,h=>g _ _ _ h|o::c,j,Y,K,l,g,h=>by simp[RD]at h ⊢;obtain⟨b,u,a,e⟩|⟨b,u,k,a,e⟩|⟨b,f,args,u,a,e,i⟩|⟨b,f,args,u,k,a,e,i⟩|⟨b,a⟩|⟨b,u,a,i⟩|⟨b,t,s,d,u,k,a,e,i,p,q,r⟩:=h;exact .inl ⟨b,u,a,RD.mono (fun _ _ _ h=>g _ _ _ h) e⟩;exact .inr<|.inl ⟨b,u,k,a,RD.mono (fun _ _ _ h=>g _ _ _ h) e⟩;exact .inr<|.inr<|.inl ⟨b,f,args,u,a,e,RD.mono (fun _ _ _ h=>g _ _ _ h) i⟩;exact .inr<|.inr<|.inr<|.inl ⟨b,f,args,u,k,a,e,RD.mono (fun _ _ _ h=>g _ _ _ h) i⟩;exact .inr<|.inr<|.inr<|.inr<|.inl ⟨b,RD.mono (fun _ _ _ h=>g _ _ _ h) a⟩;exact .inr<|.inr<|.inr<|.inr<|.inr<|.inl ⟨b,u,a,RD.mono (fun _ _ _ h=>g _ _ _ h) i⟩;exact .inr (.inr<|.inr<|.inr<|.inr<|.inr ⟨b,t,s,d,u,k,a,e,i,p,q,RD.mono (fun _ _ _ h=>g _ _ _ h) r⟩)
def RH.rd{P:Ua}{T:Tb}{l:X Oper}:∀{g:X Oper}{r:X U}{Y:Sg}{m:X RK}{K:X RK->X U->Sg->Prop},RH P T l g r Y m K->
  RD P T l g r Y (fun q i n=>∃c:X RK,c.map (·.2)=q/\(∀x∈c,kindOk T l x)/\K (c.reverse++m) i n)
 |[],r,Y,m,K,h=>⟨[],rfl,by simp,h⟩|o::g,r,Y,m,K,h=>by
  have step:∀(k:RK),kindOk T l k->∀(q:X eX)(i:X U)(n:Sg),(∃c:X RK,c.map (·.2)=q/\(∀x∈c,kindOk T l x)/\K (c.reverse++k::m) i n)->
    ∃c:X RK,c.map (·.2)=k.2::q/\(∀x∈c,kindOk T l x)/\K (c.reverse++m) i n:=by
   rintro k y q i n ⟨c,a,e,j⟩;refine⟨k::c,by simp[a],?_,by simpa using j⟩;intro x s;obtain rfl |s:=zI.1 s;exact y;exact e x s
  simp only[RH]at h;simp only[RD];obtain⟨b,u,a,e⟩|⟨b,u,p,a,e⟩|⟨b,f,args,u,a,e,j⟩|⟨b,f,args,u,p,a,e,j⟩|⟨b,a⟩|⟨b,u,a,j⟩|⟨b,A,z,d,u,p,a,e,j,t,v,w⟩:=h;exact .inl ⟨b,u,a,RD.mono (step (1,_)<|.inr<|.inl ⟨rfl,rfl,rfl⟩)<|RH.rd e⟩;exact .inr<|.inl ⟨b,u,p,a,RD.mono (step (3,_)<|.inr<|.inr<|.inr ⟨rfl,rfl,rfl⟩)<|RH.rd e⟩;exact .inr<|.inr<|.inl ⟨b,f,args,u,a,e,RD.mono (step (2,_)<|.inr<|.inr<|.inl ⟨rfl,rfl,rfl⟩)<|RH.rd j⟩;exact .inr<|.inr<|.inr<|.inl ⟨b,f,args,u,p,a,e,RD.mono (step (3,_)<|.inr<|.inr<|.inr ⟨rfl,rfl,rfl⟩)<|RH.rd j⟩;exact .inr<|.inr<|.inr<|.inr<|.inl ⟨b,RD.mono (step (0,_)<|.inl ⟨rfl,.inl b,rfl,rfl⟩)<|RH.rd a⟩;exact .inr<|.inr<|.inr<|.inr<|.inr<|.inl ⟨b,u,a,RD.mono (step (0,_)<|.inl ⟨rfl,.inr<|a.yS _,rfl,rfl⟩)<|RH.rd j⟩;exact .inr (.inr<|.inr<|.inr<|.inr<|.inr ⟨b,A,z,d,u,p,a,e,j,t,v,RD.mono (step (3,_)<|.inr<|.inr<|.inr ⟨rfl,rfl,rfl⟩)<|RH.rd w⟩)
def allI{a:Type}(p:Nat->a->FK):Nat->X a->FK
 |_,[]=>true|b,x::l=>p b x&&allI p (b+1) l
def TD{a:Type}{p:Nat->a->FK}:∀{b:Nat}{l:X a},allI p b l=true->∀{j:Nat}{x:a},l[j]? = some x->p (b+j) x=true
 |b,[],_,j,x,c=>by simp at c
 |b,y::l,h,j,x,c=>by
  simp[allI,eR]at h;cases j with
  |zero=>simp at c;subst c;exact h.1|succ j=>
   simp[zH]at c;have:=TD h.2 c
   rwa [show b+1+j=b+(j+1) by omega]at this
def Qh(k:Nat):Nat:=cond (Nat.beq k 3) 1 0
def jt:Nat->X Nat->X Nat->X (Nat×Nat×Nat)
 |c,k::a,m::b=>(k,m,c)::jt (c+Qh k) a b|_,_,_=>[]
def qT:X Nat->Nat
 |[]=>0|k::a=>Qh k+qT a
def z62:∀(a e:X Nat)(c j k m:Nat),a[j]? = some k->e[j]? = some m->(jt c a e)[j]? = some (k,m,c+qT (a.take j))
 |[],_,c,j,k,m,h,_=>by simp at h
 |_::_,[],c,j,k,m,_,h=>by simp at h
 |f::a,g::e,c,0,k,m,b,d=>by simp at b d;subst b;subst d;simp[jt,qT]
 |f::a,g::e,c,j+1,k,m,b,d=>by simp[zH]at b d;simp[jt,zH,Ga,qT];rw[z62 a e _ j k m b d];simp[ns]
def G8(i k:Nat):X (Nat×Nat)->FK
 |[]=>false|p::l=>(Nat.beq i p.1&&Nat.beq k p.2)||G8 i k l
def qvf{i k:Nat}:∀{l:X (Nat×Nat)},G8 i k l=true->(i,k)∈l
 |[],h=>by simp[G8]at h
 |p::l,h=>by simp only[G8,nH,eR]at h;obtain⟨a,b⟩|h:=h;rw[Jj a,Jj b];simp;exact lu _ (qvf h)
def Zn(c:X (Nat×Nat))(i:Nat)(a:Nat×Nat×Nat)(k:Nat)(b:Nat×Nat×Nat):FK :=
 cond (ble 2 b.1) (cond (ble 2 a.1) (cond (blt k i) (testBit a.2.1 k) true) (cond (Nat.beq a.1 1) (cond (blt k i) (testBit a.2.1 k||(Nat.beq b.2.2 a.2.2||G8 i k c))<|testBit b.2.1 i||(Nat.beq a.2.2 (b.2.2+Qh b.1)||G8 i k c))
    true))
  true
def flE(c:X Oper)(d:X Nat)(e:X (Nat×Nat)):FK :=
 let L:=jt 0 d (eH c [])
 allI (fun i a=>allI (fun k b=>Zn e i a k b) 0 L) 0 L
def ba(T:Tb)(a:X RK)(p:Nat×Nat):Prop:=match nth a p.1,nth a p.2 with
 |some r,some q=>cond (blt p.2 p.1) (bJ T q.2.s r.2.tm r.2.o.op=some (r.2.u,q.2.s)) (bJ T q.2.s' r.2.tm r.2.o.op=some (r.2.u,q.2.s'))|_,_=>False
def cr(T:Tb)(a:X RK):X (Nat×Nat)->Prop
 |[]=>True|p::l=>ba T a p/\cr T a l
def qij{T:Tb}{b:X RK}:∀{l:X (Nat×Nat)},cr T b l->∀p∈l,ba T b p
 |[],_,p,a=>by cases a
 |q::l,h,p,a=>by obtain rfl |a:=zI.1 a;exact h.1;exact qij h.2 p a
def z7h{c:X Nat}:∀{q p:Nat},p<=q->q<=c.length->qT (c.take p)=qT (c.take q)->∀(e k:Nat),p<=e->e<q->c[e]? = some k->k≠3
 |q,p,s,r,h,e,k,g,o,i=>by
  have mono:∀(l:X Nat)(a b:Nat),a<=b->qT (l.take a)<=qT (l.take b):=by
   intro l;induction l with
   |nil=>intro a b _;simp[qT]|cons x l d=>
    intro a b m;cases a with
    |zero=>simp[qT]|succ a=>cases b with|zero=>omega|succ b=>simp[Ga,qT];have:=d a b af;omega
  have succ:∀(l:X Nat)(a k:Nat),l[a]? = some k->qT (l.take<|a+1)=qT (l.take a)+Qh k:=by
   intro l;induction l with
   |nil=>intro a k h;simp at h|cons x l d=>
    intro a k h;cases a with
    |zero=>simp at h;subst h;simp[qT]|succ a=>simp[zH]at h;simp[Ga,qT];rw[d a k h];omega
  intro j;have n:=mono c p e g;have f:=succ c e k i;have a3:=mono c (e+1) q af;rw[j]at f;have:Qh 3=1:=rfl;omega
section
variable{C:PG}{T:Tb}(f:jW C.prog T){n0:Nat}{Q:Exit->X U->Sg->Prop}{tm:X U}{Y:Sg}
include f
def I6.uO {id : Nat} {n : Jg Oper} (pr : X (Nat × Nat)) (dJ : Co n.toList = true)
    (h:RH C.prog T n.toList n.toList tm Y [] (fun j K G=> flE n.toList (j.reverse.map (·.1)) pr=true/\cr T j.reverse pr/\Q .normal K G)):I6 C n0 (.region id n true) tm Y Q:=by
  obtain⟨t,K,G,⟨j,AO,hkk,DT,nN,hQ⟩,g2,g3,g4,g5⟩:=UC _ _ _ _<|RH.rd h;simp only[Px,reverse_reverse]at DT nN;have kA:p? C.prog T n.toList tm Y t K G:=⟨g2,g3,g4,fun i r hr=> by obtain⟨a,b,c,d,_⟩:=g5 i r hr;exact⟨a,b,c,d⟩⟩;have same : ∀(p q:Nat),p<=q->q<=t.length->(∀(e:Nat)(r:eX),p<=e->e<q->t[e]? = some r->r.mv=false)->lE t G p=lE t G q:=by
    intro p q y9 B eW;induction q with
    | zero => have : p = 0 := by omega
              rw[this]
    |succ q ih=>
      obtain h |h:=Zd q p;have:p=q+1:=by omega
      rw[this];rw[ih h af fun e r y E z=> eW e r y af z];have hr:t[q]? = some t[q]:=by simp[show q<t.length by omega]
      obtain⟨_,_,k3,_,k5,_⟩:=g5 q _ hr;rw[k3,k5<|eW q _ h (zN _) hr];simp[lE,hr]
  have aT:j.length=t.length:=by rw[<-AO];simp
  have at_ : ∀(i:Nat)(r:eX),t[i]? = some r->∃k,j[i]? = some (k,r)/\kindOk T n.toList (k,r):=by intro i r hr;rw[<-AO]at hr;simp only[me]at hr;rcases v:j[i]? with _|x;rw[v]at hr;simp at hr;obtain⟨k,r'⟩:=x;rw[v]at hr;simp at hr;subst hr;exact⟨k,rfl,hkk _<|zX v⟩
  have trp : ∀(i k:Nat)(r:eX),j[i]? = some (k,r)->∃m,(eH n.toList [])[i]? = some m/\(jt 0 (j.map (·.1))<|eH n.toList [])[i]? = some (k,m,qT<|(j.map (·.1)).take i):=by
    intro i k r v;obtain⟨m1,_,_⟩:=qnh n.toList [];have hi:i<n.toList.length:=by rw[<-g2, <-aT];exact(zG.1 v).1
    have hm:i<(eH n.toList []).length:=by rw[m1];simpa using hi
    refine⟨(eH n.toList [])[i],by simp[hm], ?_⟩;have:=z62 (j.map (·.1)) (eH n.toList []) 0 i k _ (by simp[v]) (show(eH n.toList [])[i]? = some (eH n.toList [])[i] by simp[hm])
    rwa [Ty]at this
  have H : ∀ (i k M kk : Nat) (r q : eX), j[i]? = some (M, r) -> j[k]? = some (kk, q) -> ∃ D mk, (eH n.toList [])[i]? = some D /\ (eH n.toList [])[k]? = some mk /\
      Zn pr i (M,D,qT<|(j.map (·.1)).take i) k (kk,mk,qT<|(j.map (·.1)).take k)=true:=by
    intro i k M kk r q hi v;obtain⟨D,L,O⟩:=trp i M r hi;obtain⟨mk,g,e4⟩:=trp k kk q v;refine⟨D,mk,L,g, ?_⟩;have y:=TD DT O;have E:=TD y e4;simpa using E
  have F : ∀(p q:Nat),p<=q->q<=t.length->qT ((j.map (·.1)).take p)=qT ((j.map (·.1)).take q)->lE t G p=lE t G q:=by
    intro p q y9 B hc;refine same p q y9 B fun e r y E z=> ?_;obtain⟨k,v,xk⟩:=at_ e r z;have:=z7h y9 (by simp;omega) hc e k y E (by simp[v]);obtain h |h |h |h:=xk
    exact h.2.2.2;exact h.2.2;exact h.2.2;exact absurd h.1 this
  have w : ∀(i:Nat)(r:eX),t[i]? = some r->r.act=true->∃k,j[i]? = some (k,r)/\ble 2 k=true:=by intro i r hr A;obtain⟨k,v,xk⟩:=at_ i r hr;refine⟨k,v, ?_⟩;obtain h |h |h |h:=xk;have:=h.2.2.1;simp only[]at this;rw[A]at this;cases this;have:=h.2.1;simp only[]at this;rw[A]at this;cases this;have:=h.1;simp only[]at this;subst this;rfl;have:=h.1;simp only[]at this;subst this;rfl
  have Z : ∀(i:Nat)(r:eX),t[i]? = some r->r.act=false->cE n.toList r.tm r.o=some true->bJ T r.s r.tm r.o.op=some (r.u,r.s')->j[i]? = some (1,r):=by intro i r hr A W V;obtain⟨k,v,xk⟩:=at_ i r hr;obtain h |h |h |h:=xk;obtain P |P:=h.2.1;simp only[]at P;rw[W]at P;cases P;exact absurd V P;have:=h.1;simp only[]at this;subst this;exact v;have:=h.2.1;simp only[]at this;rw[A]at this;cases this;have:=h.2.1;simp only[]at this;rw[A]at this;cases this
  have succ : ∀(l:X Nat)(a k:Nat),l[a]? = some k->qT (l.take<|a+1)=qT (l.take a)+Qh k:=by
    intro l;induction l with
    |nil=> intro a k h;simp at h|cons x l ih=>
      intro a k h;cases a with
      |zero=> simp at h;subst h;simp[qT]|succ a=> simp only[zH]at h;simp only[Ga,qT];rw[ih a k h];omega
  refine I6.drawn f dJ kA ⟨fun i k r q hr B A S N=> ?_,fun i k r q hr B A W V S N=> ?_,fun i k r q hr B A W V S N=> ?_⟩ (fun i r hr h=> (g5 i r hr).2.2.2.2.2 h) hQ;obtain⟨M,y,E⟩:=w i r hr A;obtain⟨kk,z,R⟩:=w k q B S;obtain⟨D,mk,L,O,g⟩:=H i k M kk r q y z;simp only[Zn,E,R,zC,A3 N]at g;exact⟨D,L,g⟩;have y:=Z i r hr A W V;obtain⟨kk,z,R⟩:=w k q B S;obtain⟨D,mk,L,O,g⟩:=H i k 1 kk r q y z;have I:ble 2 1=false:=rfl;have J:Nat.beq 1 1=true:=rfl;simp only[Zn,I,J,R,zC,zD,A3 N,nH]at g;obtain g |g |g:=g;exact .inl ⟨D,L,g⟩;have:=F k i af (by have:=(zG.1 hr).1;omega)<|Jj g;exact .inr (.inl<|by simpa[lE,hr,B]using this);have:=qij nN _<|qvf g;simp only[ba,lW,y,z,A3 N,zC]at this;exact .inr<|.inr this;have y:=Z i r hr A W V;obtain⟨kk,z,R⟩:=w k q B S;obtain⟨D,mk,L,O,g⟩:=H i k 1 kk r q y z;have I:ble 2 1=false:=rfl;have J:Nat.beq 1 1=true:=rfl;simp only[Zn,I,J,R,zC,zD,V3 (show ¬ k<i by omega),nH]at g;obtain g |g |g:=g;exact .inl ⟨mk,O,g⟩;have hc:qT ((j.map (·.1)).take i)=qT ((j.map (·.1)).take (k+1)):=by rw[succ _ k kk<|by simp[z]];exact Jj g
  have:=F i (k+1) af (by have:=(zG.1 B).1;omega) hc;have E:=(kA.all k q B).2.2.1;rw[E]at this;exact .inr (.inl<|by simpa[lE,hr]using this.symm);have:=qij nN _<|qvf g;simp only[ba,lW,y,z,V3 (show ¬ k<i by omega),zD]at this;exact .inr (.inr this)
end
def RH.call{P:Ua}{T:Tb}{b r:X Oper}{o:Oper}{a:X U}{Y:Sg}{c:X RK}{K:X RK->X U->Sg->Prop}{f:FuncId}{args:X U}{u:U}(g:cE b a o=some true)(e:kQ T a o.op=some (f,args))(i:b7 P f args Y (fun j d=>j=u/\d=Y))
  (h:RH P T b r (eS a o.dst u) Y ((2,⟨a,o,u,true,false,Y,Y⟩)::c) K):RH P T b (o::r) a Y c K:=.inr (.inr<|.inl ⟨g,f,args,u,e,i,h⟩)
def RH.oD{P:Ua}{T:Tb}{c r:X Oper}{o:Oper}{a:X U}{Y b:Sg}{d:X RK}{K:X RK->X U->Sg->Prop}{f:FuncId}{args:X U}{u:U}(i:cE c a o=some true)(g:kQ T a o.op=some (f,args))(j:b7 P f args Y (fun k e=>k=u/\e=b))
  (h:RH P T c r (eS a o.dst u) b ((3,⟨a,o,u,true,true,Y,b⟩)::d) K):RH P T c (o::r) a Y d K:=.inr (.inr<|.inr<|.inl ⟨i,f,args,u,b,g,j,h⟩)
mutual
def rU(Z:Nat->Nat):U->U
 |.ptr k st off=>.ptr (Z k) st off|.sl k off n c=>.sl (Z k) off n c
 |.vl k st off n=>.vl (Z k) st off n|.map k=>.map (Z k)
 |.b4 l=>.b4 (fP Z l)|.O t l=>.O t (vJ Z l)
 |.fn f a b=>.fn f (fP Z a) (fP Z b)|.agg l=>.agg (fP Z l)
 |.a7 l=>.a7 (fP Z l)|u=>u
def fP(Z:Nat->Nat):X U->X U
 |[]=>[]|u::l=>rU Z u::fP Z l
def vJ(Z:Nat->Nat):X (X U)->X (X U)
 |[]=>[]|c::l=>fP Z c::vJ Z l
end
def FV(Z:Nat->Nat):∀l,(fP Z l).length=l.length
 |[]=>rfl|u::l=>by simp[fP,FV Z l]
def Mj(Z:Nat->Nat):∀l,(vJ Z l).length=l.length
 |[]=>rfl|u::l=>by simp[vJ,Mj Z l]
def Zo(Z:Nat->Nat)(u:U):U6 (rU Z u)=U6 u:=by cases u<;>simp[rU,U6]
def JC(Z:Nat->Nat):∀l,I8 (fP Z l)=I8 l
 |[]=>rfl|u::l=>by simp[fP,I8,Zo,JC Z l]
structure Z7(n:Nat)(Z:Nat->Nat)(x y:Cx):Prop where
 ptr:∀k st off v,k<n->aF x (.ptr k st off) v->aF y (.ptr (Z k) st off) v
 sl:∀k off m c v,k<n->aF x (.sl k off m c) v->aF y (.sl (Z k) off m c) v
 vl:∀k st off m v,k<n->aF x (.vl k st off m) v->aF y (.vl (Z k) st off m) v
 map:∀k v,k<n->aF x (.map k) v->aF y (.map (Z k)) v
 l9:∀i row e,lk x.s.h i=some (.inl (row,e,1))->lk y.s.h i=some (.inl (row,e,1))
mutual
def aF.leaf{n:Nat}{Z:Nat->Nat}{x y:Cx}(h:Z7 n Z x y):(u:U)->(v:Value)->aW n u->aF x u v->aF y (rU Z u) v
 |.J9,v,_,_=>by simp[rU,aF]
 |.bool b,v,_,C=>by simpa[rU,aF]using C
 |.int k z,v,_,C=>by simpa[rU,aF]using C
 |.str l,v,_,C=>by simpa[rU,aF]using C
 |.b6,v,_,C=>by simpa[rU,aF]using C
 |.ptr k st off,v,d,C=>h.ptr k st off v (by simpa[aW]using d) C|.b4 l,v,d,C=>by simp only[rU,aF]at*;have⟨i,off,row,e,g,j,o,p⟩:=C;exact⟨i,off,row,e,g,h.l9 _ _ _ j,cJ.leaf h l _ (by simpa[aW]using d) o,by rw[JC];exact p⟩
 |.J,v,_,C=>by simpa[rU,aF]using C
 |.sl k off m c,v,d,C=>h.sl k off m c v (by simpa[aW]using d) C|.vl k st off m,v,d,C=>h.vl k st off m v (by simpa[aW]using d) C
 |.O t l,v,d,C=>by simp only[rU,aF]at*;obtain⟨rfl,C⟩|⟨i,off,c,g,j,o⟩:=C;exact .inl ⟨rfl,C⟩;rw[Mj];refine .inr ⟨i,off,c,g,j,?_⟩;obtain rfl |⟨row,e,w,g1,g2,r⟩:=o;exact .inl rfl;exact .inr ⟨row,e,w,h.l9 _ _ _ g1,iS.leaf h l _ (by simpa[aW]using d) g2,r⟩
 |.e6,v,_,C=>by simpa[rU,aF]using C
 |.map k,v,d,C=>h.map k v (by simpa[aW]using d) C|.fn f a b,v,d,C=>by simp[rU,aF]at*;have⟨A,B,g,j,o,p,s⟩:=C;simp[aW]at d;exact⟨A,B,g,cJ.leaf h a _ d.1 j,by rw[FV];exact o,cJ.leaf h b _ d.2 p,by rw[FV];exact s⟩
 |.e9,v,_,C=>by simpa[rU,aF]using C
 |.k9,v,_,C=>by simpa[rU,aF]using C
 |.agg l,v,d,C=>by simp[rU,aF]at*;have⟨q,g,j,o,p⟩:=C;exact⟨q,g,cJ.leaf h l _ (by simpa[aW]using d) j,by rw[FV];exact o,by rw[JC];exact p⟩
 |.a7 l,v,d,C=>by simp[rU,aF]at*;have⟨q,g,j,o⟩:=C;exact⟨q,g,cJ.leaf h l _ (by simpa[aW]using d) j,by rw[FV];exact o⟩
def cJ.leaf{n:Nat}{Z:Nat->Nat}{x y:Cx}(h:Z7 n Z x y):(l:X U)->(a:X Value)->aH n l->cJ x l a->cJ y (fP Z l) a
 |[],a,_,_=>by simp[fP,cJ]
 |u::l,[],_,c=>by simp[cJ]at c
 |u::l,v::a,b,c=>by simp[fP,cJ,aH]at*;exact⟨aF.leaf h u v b.1 c.1,cJ.leaf h l a b.2 c.2⟩
def iS.leaf{n d:Nat}{Z:Nat->Nat}{x y:Cx}(h:Z7 n Z x y):(l:X (X U))->(a:X Value)->lU n l->iS x d l a->iS y d (vJ Z l) a
 |[],a,_,_=>by simp[vJ,iS]
 |c::l,a,b,e=>by simp[vJ,iS,lU]at*;exact⟨by rw[FV];exact e.1,by rw[JC];exact e.2.1,cJ.leaf h c a b.1 e.2.2.1,iS.leaf h l _ b.2 e.2.2.2⟩
end
def rM(Z:Nat->Nat)(e:ME):ME:=⟨rU Z e.key,rU Z e.val,e.born⟩
def rB(Z:Nat->Nat):B->B
 |.row l e=>.row (fP Z l) e|.vec l e c st=>.vec (fP Z l) e c st
 |.map b a=>.map (b.map<|rM Z) a
def UI(Z:Nat->Nat)(b:B):(rB Z b).st=b.st:=by cases b<;>rfl
mutual
def cq{n:Nat}{Z κ:Nat->Nat}(h:∀k,k<n->κ (Z k)=k):(u:U)->aW n u->rU κ (rU Z u)=u
 |.ptr k _ _,c=>by simp[aW]at c;simp[rU,h k c]
 |.sl k _ _ _,c=>by simp[aW]at c;simp[rU,h k c]
 |.vl k _ _ _,c=>by simp[aW]at c;simp[rU,h k c]
 |.map k,c=>by simp[aW]at c;simp[rU,h k c]
 |.b4 l,c=>by simp[aW]at c;simp[rU,V4 h l c]
 |.O t l,c=>by simp[aW]at c;simp[rU,qr1 h l c]
 |.fn f a b,c=>by simp[aW]at c;simp[rU,V4 h a c.1,V4 h b c.2]
 |.agg l,c=>by simp[aW]at c;simp[rU,V4 h l c]
 |.a7 l,c=>by simp[aW]at c;simp[rU,V4 h l c]
 |.J9,_=>rfl|.bool _,_=>rfl
 |.int _ _,_=>rfl|.str _,_=>rfl
 |.b6,_=>rfl|.J,_=>rfl
 |.e6,_=>rfl|.e9,_=>rfl
 |.k9,_=>rfl
def V4{n:Nat}{Z κ:Nat->Nat}(h:∀k,k<n->κ (Z k)=k):(l:X U)->aH n l->fP κ (fP Z l)=l
 |[],_=>rfl|u::l,a=>by simp[aH]at a;simp[fP,cq h u a.1,V4 h l a.2]
def qr1{n:Nat}{Z κ:Nat->Nat}(h:∀k,k<n->κ (Z k)=k):(l:X (X U))->lU n l->vJ κ (vJ Z l)=l
 |[],_=>rfl|c::l,a=>by simp[lU]at a;simp[vJ,V4 h c a.1,qr1 h l a.2]
end
def bD.leaf{n:Nat}{Z:Nat->Nat}{x y:Cx}(h:Z7 n Z x y){l:X U}{a:X Value}(b:aH n l)(c:bD x l a):bD y (fP Z l) a:=⟨cJ.leaf h l a b c.1,by rw[FV];exact c.2⟩
def oR.leaf{n:Nat}{Z:Nat->Nat}{x y:Cx}(h:Z7 n Z x y){k j:Nat}{b:B}(r:cc n b)(o:y.I j=x.I k)(t:∀i c,x.I k=some i->lk x.s.h i=some c->lk y.s.h i=some c)(q:oR x k b):oR y j (rB Z b):=by
 cases b with
 |row l e=>have⟨u,i,w,a,f,g⟩:=q;exact⟨by rw[JC];exact u,i,w,by rw[o,a],t _ _ a f,bD.leaf h r g⟩
 |vec l e H st=>have⟨u,F,D⟩:=q;refine⟨by rw[JC];exact u,F,?_⟩;obtain⟨rfl,E⟩|⟨i,w,a,f,g⟩:=D;exact .inl ⟨rfl,by rw[o,E]⟩;exact .inr ⟨i,w,by rw[o,a],t _ _ a f,bD.leaf h r g⟩
 |map C G=>have⟨i,p,a,f,g,A⟩:=q;refine⟨i,p,by rw[o,a],t _ _ a f,by simpa using g,fun j e d=>?_⟩;simp only[me]at d;rcases m:C[j]? with _|e0;rw[m]at d;cases d;rw[m]at d;simp[zM,zA]at d;subst d;have⟨v,q1,q2,q3,q4⟩:=A j e0 m;have z:=r e0<|zX m;exact⟨v,q1,aF.leaf h _ _ z.1 q2,aF.leaf h _ _ z.2 q3,q4⟩
structure UX(n:Nat)(Z:Nat->Nat)(x y:Cx):Prop where
 ptr:∀k st off v,k<n->aF x (.ptr (Z k) st off) v->aF y (.ptr k st off) v
 sl:∀k off m c v,k<n->aF x (.sl (Z k) off m c) v->aF y (.sl k off m c) v
 vl:∀k st off m v,k<n->aF x (.vl (Z k) st off m) v->aF y (.vl k st off m) v
 map:∀k v,k<n->aF x (.map (Z k)) v->aF y (.map k) v
 l9:∀i row e,lk x.s.h i=some (.inl (row,e,1))->lk y.s.h i=some (.inl (row,e,1))
mutual
def aF.J8{n:Nat}{Z:Nat->Nat}{x y:Cx}(h:UX n Z x y):(u:U)->(v:Value)->aW n u->aF x (rU Z u) v->aF y u v
 |.J9,v,_,_=>by simp[aF]
 |.bool b,v,_,D=>by simpa[rU,aF]using D
 |.int k z,v,_,D=>by simpa[rU,aF]using D
 |.str l,v,_,D=>by simpa[rU,aF]using D
 |.b6,v,_,D=>by simpa[rU,aF]using D
 |.ptr k st off,v,d,D=>h.ptr k st off v (by simpa[aW]using d) D|.b4 l,v,d,D=>by simp only[rU,aF]at*;have⟨i,off,row,e,j,o,g,p⟩:=D;exact⟨i,off,row,e,j,h.l9 _ _ _ o,cJ.J8 h l _ (by simpa[aW]using d) g,by rw[JC]at p;exact p⟩
 |.J,v,_,D=>by simpa[rU,aF]using D
 |.sl k off m c,v,d,D=>h.sl k off m c v (by simpa[aW]using d) D|.vl k st off m,v,d,D=>h.vl k st off m v (by simpa[aW]using d) D
 |.O t l,v,d,D=>by simp only[rU,aF]at*;obtain⟨w,D⟩|⟨i,off,c,j,o,g⟩:=D;exact .inl ⟨Zs (by rw[<-Mj Z,w];rfl),D⟩;rw[Mj]at j o;refine .inr ⟨i,off,c,j,o,?_⟩;obtain g |⟨row,e,A,g1,g2,r⟩:=g;exact .inl (Zs (by rw[<-Mj Z,g];rfl));rw[Mj]at r;exact .inr ⟨row,e,A,h.l9 _ _ _ g1,iS.J8 h l _ (by simpa[aW]using d) g2,r⟩
 |.e6,v,_,D=>by simpa[rU,aF]using D
 |.map k,v,d,D=>h.map k v (by simpa[aW]using d) D|.fn f a b,v,d,D=>by simp[rU,aF]at*;have⟨B,C,j,o,g,p,s⟩:=D;simp[aW]at d;rw[FV]at g s;exact⟨B,C,j,cJ.J8 h a _ d.1 o,g,cJ.J8 h b _ d.2 p,s⟩
 |.e9,v,_,D=>by simpa[rU,aF]using D
 |.k9,v,_,D=>by simpa[rU,aF]using D
 |.agg l,v,d,D=>by simp[rU,aF]at*;have⟨q,j,o,g,p⟩:=D;rw[FV]at g;rw[JC]at p;exact⟨q,j,cJ.J8 h l _ (by simpa[aW]using d) o,g,p⟩
 |.a7 l,v,d,D=>by simp[rU,aF]at*;have⟨q,j,o,g⟩:=D;rw[FV]at g;exact⟨q,j,cJ.J8 h l _ (by simpa[aW]using d) o,g⟩
def cJ.J8{n:Nat}{Z:Nat->Nat}{x y:Cx}(h:UX n Z x y):(l:X U)->(a:X Value)->aH n l->cJ x (fP Z l) a->cJ y l a
 |[],a,_,_=>by simp[cJ]
 |u::l,[],_,c=>by simp[fP,cJ]at c
 |u::l,v::a,b,c=>by simp[fP,cJ,aH]at*;exact⟨aF.J8 h u v b.1 c.1,cJ.J8 h l a b.2 c.2⟩
def iS.J8{n d:Nat}{Z:Nat->Nat}{x y:Cx}(h:UX n Z x y):(l:X (X U))->(a:X Value)->lU n l->iS x d (vJ Z l) a->iS y d l a
 |[],a,_,_=>by simp[iS]
 |c::l,a,b,e=>by simp[vJ,iS,lU]at*;exact⟨by rw[<-FV Z];exact e.1,by rw[<-JC Z];exact e.2.1,cJ.J8 h c a b.1 e.2.2.1,iS.J8 h l _ b.2 e.2.2.2⟩
end
def bD.J8{n:Nat}{Z:Nat->Nat}{x y:Cx}(h:UX n Z x y){l:X U}{a:X Value}(b:aH n l)(c:bD x (fP Z l) a):bD y l a:=⟨cJ.J8 h l a b c.1,by rw[<-FV Z];exact c.2⟩
def oR.J8{n:Nat}{Z:Nat->Nat}{x y:Cx}(h:UX n Z x y){k j:Nat}{b:B}(r:cc n b)(m:y.I j=x.I k)(t:∀i c,x.I k=some i->lk x.s.h i=some c->lk y.s.h i=some c)(q:oR x k (rB Z b)):oR y j b:=by
 cases b with
 |row l e=>have⟨g,i,u,a,d,f⟩:=q;exact⟨by rw[JC]at g;exact g,i,u,by rw[m,a],t _ _ a d,bD.J8 h r f⟩
 |vec l e H st=>have⟨g,F,p⟩:=q;rw[JC]at g;refine⟨g,F,?_⟩;obtain⟨p,D⟩|⟨i,u,a,d,f⟩:=p;exact .inl ⟨Zs (by rw[<-FV Z,p];rfl),by rw[m,D]⟩;exact .inr ⟨i,u,by rw[m,a],t _ _ a d,bD.J8 h r f⟩
 |map C G=>
  have⟨i,o,a,d,f,A⟩:=q;refine⟨i,o,by rw[m,a],t _ _ a d,by simpa using f,fun j e w=>?_⟩;have E:(C.map<|rM Z)[j]? = some (rM Z e):=by simp[w]
  have⟨v,q1,q2,q3,q4⟩:=A j _ E;have z:=r e<|zX w;exact⟨v,q1,aF.J8 h _ _ z.1 q2,aF.J8 h _ _ z.2 q3,q4⟩
def ix:X Nat->Nat->Nat->V Nat
 |[],_,_=>none|a::l,k,i=>cond (Nat.beq a k) (some i) (ix l k<|i+1)
def nm:X Nat->Nat->Nat->Nat
 |[],nx,j=>nx+j|a::_,_,0=>a
 |_::l,nx,j+1=>nm l nx j
def JD:∀(b:X Nat)(nx j:Nat),j<b.length->∃h:j<b.length,nm b nx j=b[j]
 |a::l,nx,0,h=>⟨h,rfl⟩|a::l,nx,j+1,h=>by have⟨c,e⟩:=JD l nx j (by simpa using h);exact⟨h,by simp[nm,e]⟩
def NN:∀(b:X Nat)(nx j:Nat),b.length<=j->nm b nx j=nx+(j-b.length)
 |[],nx,j,_=>by simp[nm]
 |a::l,nx,0,h=>by simp at h
 |a::l,nx,j+1,h=>by simp only[nm,NN l nx j<|by simpa using h];simp
def zap{a:X Nat}{nx:Nat}(g:a.Nodup)(d:∀k∈a,k<nx){i j:Nat}(h:nm a nx i=nm a nx j):i=j:=by by_cases f:i<a.length;have⟨_,e⟩:=JD a nx i f;by_cases b:j<a.length;have⟨_,c⟩:=JD a nx j b;rw[e,c]at h;exact(Gw g).1 h;rw[e,NN a nx j af]at h;have:=d _<|jh f;omega;rw[NN a nx i af]at h;by_cases b:j<a.length;have⟨_,c⟩:=JD a nx j b;rw[c]at h;have:=d _<|jh b;omega;rw[NN a nx j af]at h;omega
def TK:X Nat->Nat->FK
 |[],_=>false|a::l,k=>cond (Nat.beq a k) true (TK l k)
def B':∀(l:X Nat)(k:Nat),TK l k=true↔k∈l
 |[],k=>by simp[TK]
 |a::l,k=>by simp[TK,beq_eq,zI];by_cases e:a=k;simp[e];have:¬ k=a:=fun h=>e h.symm;simp[e,this,B' l k]
def BL(a:X Nat)(nx:Nat):X (Nat×B)->X (Nat×B)
 |[]=>[]|(j,b)::h=>(nm a nx j,rB (nm a nx) b)::BL a nx h
def JG(a:X Nat):X (Nat×B)->X (Nat×B)
 |[]=>[]|(k,b)::h=>cond (TK a k) (JG a h) ((k,b)::JG a h)
def NH{a:X Nat}{nx:Nat}(c:∀i j,nm a nx i=nm a nx j->i=j):∀(h:X (Nat×B))(j:Nat),gt (BL a nx h) (nm a nx j)=(gt h j).map (rB<|nm a nx)
 |[],j=>by simp[BL,gt]
 |(i,b)::h,j=>by simp[BL,aR,NH c h j];by_cases e:i=j;simp[e];have:¬ nm a nx i=nm a nx j:=fun h=>e<|c _ _ h;simp[e,this]
def qld{c:X Nat}{nx:Nat}:∀(h:X (Nat×B))(k:Nat),(∀j,nm c nx j≠k)->gt (BL c nx h) k=none
 |[],k,_=>by simp[BL,gt]
 |(i,b)::h,k,a=>by simp[BL,aR,a i,qld h k a]
def Vf(a:X Nat):∀(h:X (Nat×B))(k:Nat),gt (JG a h) k=if k∈a then none else gt h k
 |[],k=>by simp[JG,gt]
 |(j,b)::h,k=>by
  have f:=Vf a h k;simp[JG];cases c:TK a j with
  |true=>have d:=(B' a j).1 c;simp[zC,f,aR];by_cases e:j=k;subst e;simp[d];simp[e]|false=>
   have d:¬ j∈a:=fun h=>by rw[(B' a j).2 h]at c;cases c
   simp[zD,aR,f];by_cases e:j=k;subst e;simp[d];simp[e]
def qn6(a b:X (Nat×B))(k:Nat):gt (a++b) k=match gt a k with |some c=>some c |none=>gt b k:=by induction a with|nil=>simp[gt]|cons p a d=>have⟨j,c⟩:=p;simp[Zg,aR,d];by_cases e:j=k<;>simp[e]
def kq(a:X Nat)(Y b:Sg):Sg:=⟨BL a Y.nx b.h++JG a Y.h,Y.nx+(b.nx-a.length)⟩
mutual
def Uc:(u:U)->rU id u=u
 |.ptr k _ _=>by simp[rU]
 |.sl k _ _ _=>by simp[rU]
 |.vl k _ _ _=>by simp[rU]
 |.map k=>by simp[rU]
 |.b4 l=>by simp[rU,P5 l]
 |.O t l=>by simp[rU,Ay l]
 |.fn f a b=>by simp[rU,P5 a,P5 b]
 |.agg l=>by simp[rU,P5 l]
 |.a7 l=>by simp[rU,P5 l]
 |.J9=>rfl|.bool _=>rfl
 |.int _ _=>rfl|.str _=>rfl
 |.b6=>rfl|.J=>rfl
 |.e6=>rfl|.e9=>rfl
 |.k9=>rfl
def P5:(l:X U)->fP id l=l
 |[]=>rfl|u::l=>by simp[fP,Uc u,P5 l]
def Ay:(l:X (X U))->vJ id l=l
 |[]=>rfl|c::l=>by simp[vJ,P5 c,Ay l]
end
def oR.S0{x y:Cx}{k:Nat}{b:B}(h:oR x k b)(hm:Ke x.Y.nx x y)(g:y.I k=x.I k)(o:∀i c,x.I k=some i->lk x.s.h i=some c->lk y.s.h i=some c):oR y k b:=by
 cases b with
 |row l e=>have⟨p,i,q,a,f,d⟩:=h;exact⟨p,i,q,by rw[g,a],o _ _ a f,hm.E d.K3 d⟩
 |vec l e A st=>have⟨p,u,n⟩:=h;refine⟨p,u,?_⟩;obtain⟨n,r⟩|⟨i,q,a,f,d⟩:=n;exact .inl ⟨n,by rw[g,r]⟩;exact .inr ⟨i,q,by rw[g,a],o _ _ a f,hm.E d.K3 d⟩
 |map z w=>have⟨i,m,a,f,d⟩:=h;refine⟨i,m,by rw[g,a],o _ _ a f,d.1,fun j e t=>?_⟩;have⟨v,q1,q2,q3,q4⟩:=d.2 j e t;exact⟨v,q1,hm _ _ (aF.K3 _ _ q2) q2,hm _ _ (aF.K3 _ _ q3) q3,q4⟩
def oR.U7{x:Cx}{k i:Nat}{b:B}(h:oR x k b)(f:x.I k=some i):∃c,lk x.s.h i=some c:=by
 cases b with
 |row l e=>have⟨_,j,o,a,d,_⟩:=h;rw[f]at a;cases a;exact⟨_,d⟩
 |vec l e r st=>have⟨_,_,n⟩:=h;obtain⟨_,g⟩|⟨j,o,a,d,_⟩:=n;rw[f]at g;cases g;rw[f]at a;cases a;exact⟨_,d⟩
 |map q p=>have⟨j,m,a,d,_⟩:=h;rw[f]at a;cases a;exact⟨_,d⟩
def b7.frame{P:Ua}{f:FuncId}{args:X U}{h0:X (Nat×B)}{R:U->Sg->Prop}(g:X Nat)(h:b7 P f args ⟨h0,g.length⟩ R)(Y:Sg)(pD:g.Nodup)(aG:∀k∈g,k<Y.nx)(ha:aH g.length args)
  (S:∀k b,gt h0 k=some b->k<g.length/\cc g.length b/\gt Y.h (nm g Y.nx k)=some (rB (nm g Y.nx) b)):
  b7 P f (fP (nm g Y.nx) args) Y (fun u Y'=>∃u0 pO,R u0 pO/\g.length<=pO.nx/\u=rU (nm g Y.nx) u0/\Y'=kq g Y pO):=fun F x vs m w Z hx Q fW he eC cM=>by
 subst hx;have xm:∀i j,nm g x.Y.nx i=nm g x.Y.nx j->i=j:=fun i j h=>zap pD aG h;have AM:∀k,k∈g->∃j,j<g.length/\nm g x.Y.nx j=k:=fun k t=>by have⟨j,o,e⟩:=Kh t;exact⟨j,o,by rw[(JD g x.Y.nx j o).2,e]⟩
 have wv:∀j,j<g.length->nm g x.Y.nx j<x.Y.nx:=fun j o=>by rw[(JD g x.Y.nx j o).2];exact aG _ (jh o)
 let L:Cx:=⟨fun k=>if k<g.length then x.I (nm g x.Y.nx k)else none,⟨h0,g.length⟩,x.s⟩
 have GB:∀k,k<g.length->L.I k=x.I (nm g x.Y.nx k):=fun k t=>by simp[L,t]
 have Gl:∀k st (p:V Nat->Prop),k<g.length->Ref x (nm g x.Y.nx k) st p->Ref L k st p:=fun k st p t ⟨_,A⟩=>⟨t,fun b n=>by have⟨_,_,z⟩:=S k b n;have:=A _ z;rw[UI]at this;rw[GB k t];exact this⟩;have Qn:UX g.length (nm g x.Y.nx) x L:={
  ptr:=fun k st off v t hr=>by simp[aF]at*;exact⟨hr.1,Gl k st _ t hr.2⟩
  sl:=fun k off m c v t hr=>by simp[aF]at*;exact⟨hr.1,Gl k 0 _ t hr.2⟩
  map:=fun k v t hr=>by simp[aF]at*;exact⟨hr.1,Gl k 0 _ t hr.2⟩
  vl:=fun k st off m v t hr=>by
   simp[aF]at*;have⟨g1,g2,g3⟩:=hr;refine⟨g1,t,fun b n=>?_⟩;have⟨_,_,z⟩:=S k b n;have⟨g4,g5⟩:=g3 _ z;rw[UI]at g4 g5;refine⟨g4,fun e=>?_⟩;have⟨l,e',sz,e7,e8⟩:=g5 e;rw[GB k t];cases b with
   |vec l0 e0 Tv st0=>simp[rB,B.vec.injEq]at e7;obtain⟨_,rfl,rfl,rfl⟩:=e7;exact⟨l0,_,_,rfl,e8⟩
   |row _ _=>simp[rB]at e7|map _ _=>simp[rB]at e7
  l9:=fun i row e J=>J }
 have hh0:jV L:=⟨fun k b n=>by have⟨q,A,H⟩:=S k b n;exact⟨q,oR.J8 Qn A (GB k q) (fun i c _ J=>J) (Q.ok _ _ H).2⟩,
  fun k D b b' i n cZ G K=>by have⟨q,A,H⟩:=S k b n;have⟨vZ,IE,SX⟩:=S D b' cZ;rw[GB k q]at G;rw[GB D vZ]at K;exact xm _ _<|Q.inj _ _ _ _ i H SX G K,
  Q.bd⟩
 let F0:Nat->nT->Prop:=fun i b=>lk x.s.h i=some b/\∀k c,gt h0 k=some c->x.I (nm g x.Y.nx k)≠some i
 have hfr0:Fr F0 L:=fun i b O=>⟨O.1,fun k c M=>by rw[GB k (S k c M).1];exact O.2 k c M⟩;refine(h F0 L vs m w Z rfl hh0 hfr0 (bD.J8 Qn ha he) eC cM).mono ?_;rintro e w₁ ⟨C,aO,u0,v,cv,rfl,hR,aX,jJ,xu,wX,C6,jE,jL⟩;have oF:g.length<=C.Y.nx:=jL;have xp:∀k,k<x.Y.nx->¬ k∈g->∀j,nm g x.Y.nx j≠k:=fun k t r j e=>by by_cases o:j<g.length;have⟨_,N⟩:=JD g x.Y.nx j o;rw[N]at e;exact r<|e ▸ jh o;rw[NN g x.Y.nx j af]at e;omega
 let inv:Nat->V Nat:=fun k=>if k<x.Y.nx then ix g k 0 else some (g.length+(k-x.Y.nx))
 let y:Cx:=⟨fun k=>if k∈g\/x.Y.nx<=k then(match inv k with |some j=>C.I j |none=>none)else x.I k,kq g x.Y C.Y,C.s⟩
 have hixg:∀(l:X Nat)(j i:Nat),l.Nodup->(o:j<l.length)->ix l l[j] i=some (i+j):=by
  intro l;induction l with
  |nil=>intro j i _ o;simp at o|cons a l ih=>
   intro j i pD o;cases j with
   |zero=>simp[ix,beq_eq]|succ j=>have cB:¬ a=l[j]'(by simpa using o):=fun h=>(nodup_cons.1 pD).1 (h ▸ jh _);simp[getElem_cons_succ,ix,beq_eq,cB,yB,zD];rw[ih j (i+1) (nodup_cons.1 pD).2 (by simpa using o)];congr 1;omega
 have hinv:∀j,inv (nm g x.Y.nx j)=some j:=fun j=>by
  by_cases o:j<g.length;have q:=wv j o;have⟨_,N⟩:=JD g x.Y.nx j o;simp[inv,q,It];rw[N,hixg g j 0 pD o];simp;have N:=NN g x.Y.nx j af;have q:¬ nm g x.Y.nx j<x.Y.nx:=by omega
  simp[inv,q,MF,zA];omega
 have GA:∀j,y.I (nm g x.Y.nx j)=C.I j:=fun j=>by
  have q:nm g x.Y.nx j∈g\/x.Y.nx<=nm g x.Y.nx j:=by by_cases o:j<g.length;have⟨_,N⟩:=JD g x.Y.nx j o;exact .inl (by rw[N];exact jh o);rw[NN g x.Y.nx j af];exact .inr af
  simp[y,q,It,hinv]
 have T:∀k,k<x.Y.nx->¬ k∈g->y.I k=x.I k:=fun k t r=>by
  have q:¬ (k∈g\/x.Y.nx<=k):=by rintro(h |h);exact r h;omega
  simp[y,q,MF]
 have SE:∀j,gt y.Y.h (nm g x.Y.nx j)=(gt C.Y.h j).map (rB<|nm g x.Y.nx):=fun j=>by
  show gt (BL g x.Y.nx C.Y.h++JG g x.Y.h) _=_;rw[qn6,NH xm];cases z:gt C.Y.h j with
  |some b=>rfl|none=>simp[Bm];rw[Vf];split;rfl;rename_i r;rcases Qv:gt x.Y.h (nm g x.Y.nx j)with _|b;rfl;have:=(Q.ok _ _ Qv).1;exact absurd rfl (xp _ this r j)
 have hgn:∀k,k<x.Y.nx->¬ k∈g->gt y.Y.h k=gt x.Y.h k:=fun k t r=>by show gt (BL g x.Y.nx C.Y.h++JG g x.Y.h) _=_;rw[qn6,qld _ _<|xp k t r,Vf,hF r]
 have mW:∀k b,gt y.Y.h k=some b->(∃j E,k=nm g x.Y.nx j/\gt C.Y.h j=some E/\b=rB (nm g x.Y.nx) E)\/(k<x.Y.nx/\¬ k∈g/\gt x.Y.h k=some b):=fun k b n=>by
  by_cases t:∃j,nm g x.Y.nx j=k;obtain⟨j,rfl⟩:=t;rw[SE]at n;rcases z:gt C.Y.h j with _|E;rw[z]at n;cases n;rw[z]at n;simp at n;exact .inl ⟨j,E,rfl,z,n.symm⟩;have tS:∀j,nm g x.Y.nx j≠k:=fun j e=>t ⟨j,e⟩
  have AN:k<x.Y.nx:=by obtain h |h:=Zd k x.Y.nx;exact h;exact absurd (by rw[NN g x.Y.nx _ af];omega) (tS<|g.length+(k-x.Y.nx))
  have r:¬ k∈g:=fun h=>by have⟨j,_,e⟩:=AM k h;exact tS j e
  rw[hgn k AN r]at n;exact .inr ⟨AN,r,n⟩
 have EP:∀k,k<x.Y.nx->k∈g\/¬ k∈g:=fun k _=>Classical.em _;have KU:y.Y.nx=x.Y.nx+(C.Y.nx-g.length):=rfl;have L8:∀j,j<C.Y.nx->nm g x.Y.nx j<y.Y.nx:=fun j o=>by rw[KU];by_cases vW:j<g.length;have:=wv j vW;omega;rw[NN g x.Y.nx j af];omega
 have L0:∀k st (p:V Nat->Prop),Ref C k st p->Ref y (nm g x.Y.nx k) st p:=fun k st p ⟨q,A⟩=>⟨L8 k q,fun b n=>by rw[SE]at n;rcases z:gt C.Y.h k with _|E;rw[z]at n;cases n;rw[z]at n;simp[zM,zA]at n;subst n;rw[UI,GA];exact A _ z⟩;have vV:Z7 C.Y.nx (nm g x.Y.nx) C y:={
  ptr:=fun k st off v _ hr=>by simp[aF]at*;exact⟨hr.1,L0 k st _ hr.2⟩
  sl:=fun k off m c v _ hr=>by simp[aF]at*;exact⟨hr.1,L0 k 0 _ hr.2⟩
  map:=fun k v _ hr=>by simp[aF]at*;exact⟨hr.1,L0 k 0 _ hr.2⟩
  vl:=fun k st off m v _ hr=>by simp[aF]at*;have⟨g1,g2,g3⟩:=hr;refine⟨g1,L8 k g2,fun b n=>?_⟩;rw[SE]at n;rcases z:gt C.Y.h k with _|E;rw[z]at n;cases n;rw[z]at n;simp[zM,zA]at n;subst n;rw[UI,GA];have⟨g4,g5⟩:=g3 _ z;refine⟨g4,fun e=>?_⟩;obtain⟨l,e',sz,rfl,e8⟩:=g5 e;exact⟨_,e',sz,rfl,e8⟩
  l9:=fun i row e J=>J }
 have himm:∀i row e,lk x.s.h i=some (.inl (row,e,1))->lk y.s.h i=some (.inl (row,e,1)):=fun i row e J=>(wX i _ ⟨J,fun k c M kJ=>(Q.ok _ _ (S k c M).2.2).2.pH kJ J⟩).1;have L1:∀k st (p:V Nat->Prop),¬ k∈g->Ref x k st p->Ref y k st p:=fun k st p r ⟨q,A⟩=>⟨by rw[KU];omega,fun b n=>by rw[hgn k q r]at n;rw[T k q r];exact A b n⟩;have hkeL:Z7 x.Y.nx id x y:={
  ptr:=fun k st off v t hr=>by by_cases r:k∈g;obtain⟨j,o,rfl⟩:=AM k r;exact vV.ptr j st off v af (jE (.ptr j st off) v (by simpa[aW,L]using o)<|Qn.ptr j st off v o hr);simp[aF]at*;exact⟨hr.1,L1 k st _ r hr.2⟩
  sl:=fun k off m c v t hr=>by by_cases r:k∈g;obtain⟨j,o,rfl⟩:=AM k r;exact vV.sl j off m c v af (jE (.sl j off m c) v (by simpa[aW,L]using o)<|Qn.sl j off m c v o hr);simp[aF]at*;exact⟨hr.1,L1 k 0 _ r hr.2⟩
  map:=fun k v t hr=>by by_cases r:k∈g;obtain⟨j,o,rfl⟩:=AM k r;exact vV.map j v af (jE (.map j) v (by simpa[aW,L]using o)<|Qn.map j v o hr);simp[aF]at*;exact⟨hr.1,L1 k 0 _ r hr.2⟩
  vl:=fun k st off m v t hr=>by by_cases r:k∈g;obtain⟨j,o,rfl⟩:=AM k r;exact vV.vl j st off m v af (jE (.vl j st off m) v (by simpa[aW,L]using o)<|Qn.vl j st off m v o hr);simp[aF,id]at*;have⟨g1,g2,g3⟩:=hr;refine⟨g1,by rw[KU];omega,fun b n=>?_⟩;rw[hgn k g2 r]at n;rw[T k g2 r];exact g3 b n
  l9:=himm }
 have m6:∀u,rU id u=u/\True:=fun u=>⟨(Uc u),trivial⟩;have X5:Ke x.Y.nx x y:=fun u v n hr=>by
  have:=aF.leaf hkeL u v n hr
  rwa [(m6 u).1]at this
 have WX:∀k b i c,gt x.Y.h k=some b->¬ k∈g->x.I k=some i->lk x.s.h i=some c->F0 i c:=fun k b i c n r G J=>⟨J,fun j d hd kJ=>by
  have⟨q,_,H⟩:=S j d hd;have:=Q.inj _ _ _ _ i H n kJ G;have h5:nm g x.Y.nx j∈g:=by rw[(JD g x.Y.nx j q).2];exact jh q
  exact r<|this ▸ h5⟩
 refine⟨y,aO,rU (nm g x.Y.nx) u0,v,cv,rfl,⟨u0,C.Y,hR,oF,rfl,rfl⟩,aX,jJ,⟨fun k b n=>?_,fun k D b b' i n cZ G K=>?_,xu.bd⟩,fun i b O=>?_,aF.leaf vV u0 v (aF.K3 u0 v C6) C6,X5,by rw[KU];omega⟩;obtain⟨j,E,rfl,z,rfl⟩|⟨q,A,H⟩:=mW k b n;have⟨g1,g2⟩:=xu.ok j E z;exact⟨L8 j g1,oR.leaf vV (g2.kU) (GA j) (fun i c _ J=>J) g2⟩;exact⟨by rw[KU];omega,(Q.ok k b H).2.S0 X5 (T k q A) fun i c G J=>(wX i c<|WX k b i c H A G J).1⟩;have mixed:∀k D b E (j:Nat),k=nm g x.Y.nx j->gt C.Y.h j=some E->y.I k=some i->D<x.Y.nx->¬ D∈g->gt x.Y.h D=some b->y.I D=some i->False:=fun k D b E j e z G q A H K=>by subst e;rw[GA]at G;rw[T D q A]at K;have⟨c,M⟩:=(Q.ok D b H).2.U7 K;exact(wX i c<|WX D b i c H A K M).2 j E z G
 obtain⟨j,E,N,z,_⟩|⟨q,A,H⟩:=mW k b n;obtain⟨j',W,Ji,uK,_⟩|⟨vZ,IE,SX⟩:=mW D b' cZ;subst N Ji;rw[GA]at G K;rw[xu.inj j j' E W i z uK G K];exact(mixed k D b' E j N z G vZ IE SX K).elim;obtain⟨j',W,Ji,uK,_⟩|⟨vZ,IE,SX⟩:=mW D b' cZ;exact(mixed D k b W j' Ji uK K q A H G).elim;rw[T k q A]at G;rw[T D vZ IE]at K;exact Q.inj k D b b' i H SX G K;have⟨q,A⟩:=fW i b O;have hF0:F0 i b:=⟨q,fun k c M=>A _ _ (S k c M).2.2⟩;refine⟨(wX i b hF0).1,fun k c M=>?_⟩;obtain⟨j,E,rfl,z,_⟩|⟨g1,g2,g3⟩:=mW k c M;rw[GA];exact(wX i b hF0).2 j E z;rw[T k g1 g2];exact A k c g3
def a8{b c:Type}(o:V b)(k:b->V c):V c:=match o with
 |some a=>k a|none=>none
variable{D:Type}{G:Type}
def aJ{o:V D}{k:D->V G}{r:G}(h:a8 o k=some r):∃a,o=some a/\k a=some r:=by obtain _|a:=o;cases h;exact⟨a,rfl,h⟩
def bO{D G c:Type}{o:V D}{k:D->V G}{l:D->G->V c}{r:c}(h:a8 o (fun a=>a8 (k a)<|l a)=some r): ∃a,o=some a/\∃b,k a=some b/\l a b=some r:=by have⟨a,d,h⟩:=aJ h;have⟨b,e,h⟩:=aJ h;exact⟨a,d,b,e,h⟩
def nJ{D G d e:Type}{o:V D}{k:D->V G}{l:D->G->V d}{p:D->G->d->V e}{r:e}(h:a8 o (fun a=>a8 (k a) fun b=>a8 (l a b)<|p a b)=some r): ∃a,o=some a/\∃b,k a=some b/\∃c,l a b=some c/\p a b c=some r:=by have⟨a,f,h⟩:=aJ h;have⟨b,g,c,i,h⟩:=bO h;exact⟨a,f,b,g,c,i,h⟩
def tD{D G e f g:Type}{o:V D}{k:D->V G}{l:D->G->V e}{p:D->G->e->V f}{q:D->G->e->f->V g}{r:g}(h:a8 o (fun a=>a8 (k a) fun b=>a8 (l a b) fun c=>a8 (p a b c)<|q a b c)=some r): ∃a,o=some a/\∃b,k a=some b/\∃c,l a b=some c/\∃d,p a b c=some d/\q a b c d=some r:=by have⟨a,i,h⟩:=aJ h;have⟨b,j,c,m,d,n,h⟩:=nJ h;exact⟨a,i,b,j,c,m,d,n,h⟩
@[simp] def aN{D G:Type}(a:D)(k:D->V G):a8 (some a) k=k a:=rfl
@[simp] def i?{D G:Type}(k:D->V G):a8 none k=none:=rfl
def Jm{c:FK}{a b:V G}{r:V G}(h:c=true)(O:cond c a b=r):a=r:=by subst h;exact O
def Jn{c:FK}{a b:V G}{r:V G}(h:c=false)(O:cond c a b=r):b=r:=by subst h;exact O
def aE{G:Type}(p:Prop)[Decidable p](k:V G):V G:=if p then k else none
def bU{p:Prop}[Decidable p]{k:V G}{r:G}(h:aE p k=some r):p/\k=some r:=by unfold aE at h;split at h;rename_i a;exact⟨a,h⟩;cases h
def aB{D:Type}(l:X D)(i:Int):V D:=if 0<=i/\i<(l.length:Int)then l[i.toNat]? else none
variable{l:X D}{i:Int}{x:D}
def z2t(c:D->X U)(h:aB l i=some x):0<=i/\i<(l.length:Int)/\(l.map c)[i.toNat]? = some (c x):=by unfold aB at h;split at h;rename_i a;exact⟨a.1,a.2,by simp[h]⟩;cases h
def QH(h:aB l i=some x):0<=i/\i<(l.length:Int)/\l[i.toNat]? = some x:=by unfold aB at h;split at h;rename_i a;exact⟨a.1,a.2,h⟩;cases h
def c9(i:Nat):aB l (i:Int)=l[i]?:=by unfold aB;by_cases h:i<l.length;simp[h];simp[h]
def cI(k:IntKind)(n:Int):X U:=[.int k n]
def cS(s:X Yv):X U:=[.str s]
def cL{D:Type}(c:D->X U)(l:X D):X U:=[.O false<|l.map c]
def bq(n:Nat)(k:IntKind)(x:Int):aH n (cI k x):=by simp[cI,aH,aW]
def z9u(n:Nat)(x:X Yv):aH n (cS x):=by simp[cS,aH,aW]
variable{c:D->X U}
def Kg(n:Nat)(h:∀x,aH n<|c x)(x:X D):aH n (cL c x):=by simp[cL,aH,aW,tF c h x]
variable{sz:Nat}
def z0w(h:∀x,(c x).length=sz)(l:X D):((l.map c).all fun r=>Nat.beq r.length sz)=true:=by simp[h]
def FX(h:∀x,(c x).length=sz)(l:X D):((l.map c).flatten).length=l.length*sz:=by induction l with|nil=>simp|cons x l a=>simp[zQ,YP,zU,a,h,zO,eM];omega
def qxb(c:D->X U)(l k:X D):((l++k).map c).flatten=(l.map c).flatten++(k.map c).flatten:=aZ
def zda(h:∀x,(c x).length=sz)(l:X D):mD (l.map c).flatten (0*sz) (l.length*sz)=some (l.map c).flatten:=by have:=FX h l;simp[mD,my,Ty,this,zF,It,Za];rw[<-this,js]
def ab(h:∀x,(c x).length=sz)(l:X D)(i:Nat):((l.map c).flatten).drop (i*sz)=((l.drop i).map c).flatten:=by induction i generalizing l with|zero=>simp|succ i a=>obtain _|⟨x,l⟩:=l;simp;simp only[zQ,YP,drop_succ_cons,eM];rw[zv,<-kh,xn (by rw[h];exact zF _)];rw[show(c x).drop sz=[]from Gk (by rw[h];exact zF _),X0,a]
def Z_(h:∀x,(c x).length=sz)(l:X D)(i:Nat):((l.map c).flatten).take (i*sz)=((l.take i).map c).flatten:=by induction i generalizing l with|zero=>simp|succ i a=>obtain _|⟨x,l⟩:=l;simp;simp only[zQ,YP,Ga,eM];rw[zv,take_append,h,zW (by rw[h];omega),qi,a]
def qmu(h:∀x,(c x).length=sz)(l:X D):bR sz l.length (l.map c).flatten=l.map c:=by induction l with|nil=>rfl|cons x l a=>simp only[zQ,YP,zO,bR];rw[Ar (by rw[h];exact zF _),zW (by rw[h];exact zF _),xn (by rw[h];exact zF _),Gk (by rw[h];exact zF _),X0,a]
def z69(h:∀x,(c x).length=sz)(f:aB l i=some x):mD (l.map c).flatten (0*sz+i.toNat*sz) sz=some (c x):=by
 have⟨j,k,b⟩:=QH f;have a:i.toNat<l.length:=by omega
 have e:=FX h l;have g:i.toNat*sz+sz<=l.length*sz:=by rw[<-eM];exact tp _ af
 simp only[mD,my,Ty,e,g,It,ab h,zA];have d:l.drop i.toNat=x::l.drop (i.toNat+1):=by rw[Zq a];rw[lq a]at b;rw[Option.some.inj b]
 rw[d];simp[zQ,YP];rw[Ar (by rw[h];exact zF _),zW (by rw[h];exact zF _)]
def ZE(h:∀x,(c x).length=sz)(d:0<sz)(b:aB l i=some x):((l.map c).flatten=[])=False:=by have⟨f,g,j⟩:=QH b;have a:=FX h l;simp only[eq_iff_iff,iff_false];intro e;rw[e]at a;have:0<l.length*sz:=Hx af d;simp at a;omega
def zds(h:∀x,(c x).length=1){u:D->U}(d:∀x,c x=[u x])(e:aB l i=some x):nth (l.map c).flatten (0*1+i.toNat*1)=some (u x):=by have:=z69 h e;have⟨f,a⟩:=VA this;rw[d]at a;rw[lW];have b:=congrArg (fun l:X U=>l[0]?) a;simp[jz,pc]at b;simpa using b.symm
def sX{D:Type}(l:X D)(lo a:Int):V (X D):=if 0<=lo/\lo<=a/\a<=(l.length:Int)then some ((l.take a.toNat).drop lo.toNat)else none
def qx0(c:D->X U)(l:X D)(a b:Nat):vM (l.map c) a b=((l.take b).drop a).map c:=by simp[vM,As,Bd]
variable{k:X D}{G:Int}{H:Int}
def qso(h:sX l G H=some k):0<=G/\G<=H/\H<=(l.length:Int)/\(l.take H.toNat).drop G.toNat=k:=by unfold sX at h;split at h;rename_i a;exact⟨a.1,a.2.1,a.2.2,Option.some.inj h⟩;cases h
def bo{n m:Nat}{k:IntKind}(a:0<=H)(b:H<=(n:Int)):o9 m n none (some<|.int k H)=some (0,H.toNat,n):=by have:uH H (n+1)=true:=NR ⟨by omega,by omega⟩;simp[o9,zR,this]
def z1d{n:Nat}{k:IntKind}(a:0<=G)(b:G<=(n:Int)):o9 n n (some<|.int k G) none=some (G.toNat,n,n):=by have:uH G (n+1)=true:=NR ⟨by omega,by omega⟩;simp[o9,zR,this]
def CV(f:Nat)(E:X U->Sg->Prop)(Q:Exit->X U->Sg->Prop):Exit->X U->Sg->Prop
 |.normal,d,Y=>∃a b,E a b/\f<=b.nx/\Gh f d Y a b|e,d,Y=>Q e d Y
variable{C:PG}{n0:Nat}{Q:Exit->X U->Sg->Prop}{tm:X U}{Y:Sg}
def u6{c:Code}(E:X U->Sg->Prop)(out:∀tm Y,E tm Y->Q .normal tm Y)(h:I6 C n0 c tm Y (CV n0 E Q)):I6 C n0 c tm Y Q:=by
 apply I6.after h;intro e a b n h;cases e with
 |normal=>have⟨f,d,g,j,m⟩:=h;exact⟨f,d,j,m,out _ _ g⟩
 |_=>exact⟨a,b,n,Gh.refl _ _ _,h⟩
def I6.uW{c:Code}{id:Nat}(a:Nat->X U->Sg->Prop)(E:X U->Sg->Prop)(n:Nat)(b:a n tm Y)
  (out:∀tm Y,E tm Y->Q .normal tm Y)
  (round:∀n tm Y,a n tm Y->I6 C n0 c tm Y (BP (fun e h=>∃g f d,g<n/\a g f d/\n0<=d.nx/\Gh n0 e h f d)<|wK id<|CV n0 E Q)):I6 C n0 (.block id<|.loop c) tm Y Q:=by apply u6 E out;exact cK<|I6.sU a n b round
variable{f:FuncId}{args:X U}{args':X U}{Y':Sg}
def b7.ghost{P:Ua}{R:U->Sg->Prop}(Z:Gh Y.nx args Y args' Y')(j:Y.nx<=Y'.nx)(h:b7 P f args' Y' R):b7 P f args Y R:=fun F x n m w a b hh t W s q=>by
 have⟨y,g1,g2,A,B,E,I⟩:=Z F x n b hh t W;have d:=g1 m w s;refine(h F y n m w a g2 A B E d.fits<|q.ext (aP.refl _ _) d.nx).mono ?_;rintro e o ⟨z,p,u,v,r,J,K,L,M,N,O,S,T,V⟩;refine⟨z,p,u,v,r,J,K,d.trans L,M,N,O,S,?_,?_⟩;have g:Ke x.Y.nx x y:=by rw[b];exact I
 exact g.trans (T.le (by rw[b,g2];exact j));rw[b];exact Zt j (by rw[<-g2];exact V)
variable{tm':X U}
def I6.eqv{c:Code}(b:tm=tm')(a:Y=Y')(h:I6 C n0 c tm' Y' Q):I6 C n0 c tm Y Q:=by subst b;subst a;exact h
def Gh.eqv(b:tm=tm')(a:Y=Y'):Gh n0 tm Y tm' Y':=by subst b;subst a;exact Gh.refl _ _ _
mutual
inductive Wk:U->U->Prop
 |refl (u:U):Wk u u
 |nil (t:Bool):Wk .J (.O t [])
 |full (l:List (List U)):Wk (.O true l) (.O false l)
 |agg {l l':List U} (h:qP l l'):Wk (.agg l) (.agg l')
 |a7 {l l':List U} (h:qP l l'):Wk (.a7 l) (.a7 l')
inductive qP:List U->List U->Prop
 |nil:qP [] []
 |cons {u u':U} {l l':List U} (h:Wk u u') (h':qP l l'):qP (u::l) (u'::l')
end
def qP.refl:∀l,qP l l
 |[]=>.nil|u::l=>.cons (.refl u) (qP.refl l)
def Wk.U6{u a:U}(h:Wk u a):Vx.U6 a=Vx.U6 u:=by cases h<;>rfl
def qP.len:∀{l a:X U},qP l a->a.length=l.length
 |_,_,.nil=>rfl|_,_,.cons _ h=>by simp[h.len]
def qP.I8:∀{l a:X U},qP l a->Vx.I8 a=Vx.I8 l
 |_,_,.nil=>rfl|_,_,.cons h b=>by simp[Vx.I8,h.U6,b.I8]
mutual
def Wk.rel{x:Cx}{u g:U}{v:Value}(h:Wk u g)(m:aF x u v):aF x g v:=by
 cases h with
 |refl=>exact m|nil t=>simp only[aF]at m ⊢;exact .inl ⟨trivial,.inl m⟩
 |full l=>simp only[aF]at m ⊢;obtain m |⟨i,off,c,a,d,b⟩:=m;exact .inl m;exact .inr ⟨i,off,c,a,by simp,b⟩
 |agg h=>simp[aF]at m ⊢;have⟨e,a,d,b,j⟩:=m;exact⟨e,a,qP.rel h d,by rw[h.len,b],by rw[h.I8,j]⟩
 |a7 h=>simp[aF]at m ⊢;have⟨e,a,d,b⟩:=m;exact⟨e,a,qP.rel h d,by rw[h.len,b]⟩
def qP.rel{x:Cx}{l b:X U}{a:X Value}(h:qP l b)(e:cJ x l a):cJ x b a:=by obtain _|⟨h,d⟩:=h;exact e;obtain _|⟨v,a⟩:=a;simp[cJ]at e;simp[cJ]at e ⊢;exact⟨Wk.rel h e.1,qP.rel d e.2⟩
end
def Gh.wk(h:qP tm tm'):Gh n0 tm Y tm' Y:=fun F x e d g a b=>⟨x,fun m w a=>bS.refl a,d,g,a,⟨h.rel b.1,by rw[h.len];exact b.2⟩,Ke.refl _ _⟩
def Gh.fz{h':X (Nat×B)}(K:Nat)(b:B)(sz:Nat)(g:gt Y.h K=some b)(e:∀d a,b≠.map d a)(m:iO K b sz tm=tm')(j:dd K b sz Y.h=h'):Gh n0 tm Y tm' ⟨h',Y.nx⟩:=by subst m;subst j;exact Gh.freeze sz g e
def HL(h:∀x,(c x).length=sz)(l:X D)(K s:Nat)(e:TypeId)(st:Nat):fz K (.vec (l.map c).flatten e sz st) s (.vl K st 0 l.length)=.O false (l.map c):=by have b:=FX h l;have a:=qmu h l;simp[fz,beq_eq,b,a]
def qwt(n:Nat):∀(a b:X U),aH n a->aH n b->aH n (a++b)
 |[],b,_,h=>h|u::a,b,h,d=>by simp[aH]at h;simp[Zg,aH];exact⟨h.1,qwt n a b h.2 d⟩
def QM{D:Type}{c:D->X U}(n:Nat)(h:∀x,aH n<|c x):∀l:X D,aH n (l.map c).flatten
 |[]=>by simp[aH]
 |x::l=>by simp[zQ,YP];exact qwt n _ _ (h x) (QM n h l)
def RU.X7{T:Tb}{a r:X Oper}{o:Oper}{Y1:Sg}{K:X U->Sg->Prop}{u:U}(n:cE a tm o=some true)(g:kQ T tm o.op=some (f,args))(j:Gh Y.nx args Y args' Y1)(m:Y.nx<=Y1.nx)(p:b7 C.prog f args' Y1 (fun b Y'=>b=u/\Y'=Y1))
  (h:RU C T a r (eS tm o.dst u) Y1 K):RU C T a (o::r) tm Y K:=RU.call n g (b7.ghost j m p) (fun b Y' ⟨d,e⟩=>by subst d;subst e;exact h)
def RH.X7{P:Ua}{T:Tb}{a r:X Oper}{o:Oper}{Y1:Sg}{b:X RK}{K:X RK->X U->Sg->Prop}{u:U}(j:cE a tm o=some true)(d:kQ T tm o.op=some (f,args))(e:Gh Y.nx args Y args' Y1)(g:Y.nx<=Y1.nx)(m:b7 P f args' Y1 (fun n Y'=>n=u/\Y'=Y1))
  (h:RH P T a r (eS tm o.dst u) Y1 ((3,⟨tm,o,u,true,true,Y,Y1⟩)::b) K):RH P T a (o::r) tm Y b K:=RH.oD j d (b7.ghost e g m) h
def bn(c:D->X U)(kk:IntKind)(h:sX l 0 H=some k):o9 l.length l.length none (some<|.int kk H)=some (0,H.toNat,l.length)/\vM (l.map c) 0 H.toNat=k.map c:=by have⟨e,a,b,d⟩:=qso h;exact⟨bo a b,by rw[qx0,<-d];rfl⟩
def Ui(c:D->X U)(kk:IntKind)(h:sX l G (l.length:Int)=some k):o9 l.length l.length (some<|.int kk G) none=some (G.toNat,l.length,l.length)/\vM (l.map c) G.toNat l.length=k.map c:=by have⟨a,b,e,d⟩:=qso h;exact⟨z1d a b,by rw[qx0,<-d];simp⟩
def oM:X (Nat×U)->Nat->V U
 |[],_=>none|(j,u)::l,i=>cond (Nat.beq j i) (some u) (oM l i)
def Io(l:X (Nat×U)):Nat->Nat->X U
 |0,_=>[]|n+1,i=>((oM l i).getD .J9)::Io l n (i+1)
def fr(n:Nat)(l:X (Nat×U)):X U:=Io l n 0
def z2h(l:X (Nat×U)):∀n i,(Io l n i).length=n
 |0,_=>rfl|n+1,i=>by simp[Io,z2h l n]
def z2g(l:X (Nat×U)):∀n i k,k<n->(Io l n i)[k]? = some ((oM l<|i+k).getD .J9)
 |0,_,_,h=>by omega
 |n+1,i,0,_=>by simp[Io]
 |n+1,i,k+1,h=>by simp[Io,zH];rw[z2g l n (i+1) k af,show i+1+k=i+(k+1) by omega]
def FT(n:Nat)(l:X (Nat×U)):(fr n l).length=n:=z2h l n 0
variable{k:Nat}
def Q7(n:Nat)(l:X (Nat×U))(h:k<n):(fr n l)[k]? = some ((oM l k).getD .J9):=by have:=z2g l n 0 k h;simpa[fr]using this
variable{n:Nat}{l:X (Nat×U)}
def za9{t:X U}(b:t.length=n)(h:∀k,k<n->t[k]? = some ((oM l k).getD .J9)):t=fr n l:=by apply od;intro k;by_cases a:k<n;rw[h k a,Q7 n l a];rw[YQ af,YQ (by rw[FT];omega)]
def bN(n:Nat)(l:X (Nat×U)):He->V U
 |.tmp t=>cond (blt t n) (oM l t) none|.const v=>kS v
 |.func f=>some (.fn (.func f) [] [])|.global _=>none
variable{o:He}{u:U}
def dY(h:bN n l o=some u):cX (fr n l) o=some u:=by
 cases o with
 |tmp t=>simp[bN]at h;rcases a:blt t n with _|_;rw[a]at h;cases h;rw[a]at h;simp[zC]at h;simp[cX,lW];have b:t<n:=zY a;rw[Q7 n l b,h];rfl
 |const v=>exact h|func f=>exact h
 |global g=>cases h
def N4(n:Nat)(l:X (Nat×U)):X He->V (X U)
 |[]=>some []|x::r=>match bN n l x with
  |some v=>(match N4 n l r with
   |some q=>some (v::q)|none=>none)
  |none=>none
def Mb{n:Nat}{l:X (Nat×U)}:∀{b:X He}{d:X U},N4 n l b=some d->pT (fr n l) b=some d
 |[],d,h=>h|o::b,d,h=>by simp[N4]at h;rcases a:bN n l o with _|v;simp[a]at h;rcases e:N4 n l b with _|q;simp[a,e]at h;simp[a,e]at h;simp[pT,dY a,Mb e];exact h
def E9(n:Nat)(l:X (Nat×U)):X (Nat×He)->V (X<|Nat×U)
 |[]=>some []|(i,x)::r=>match bN n l x with
  |some v=>(match E9 n l r with
   |some q=>some ((i,v)::q)|none=>none)
  |none=>none
def bj{n:Nat}{l:X (Nat×U)}:∀{b:X (Nat×He)}{d:X (Nat×U)},E9 n l b=some d->BW (fr n l) b=some d
 |[],d,h=>h|(i,o)::b,d,h=>by simp[E9]at h;rcases a:bN n l o with _|v;simp[a]at h;rcases e:E9 n l b with _|q;simp[a,e]at h;simp[a,e]at h;simp[BW,dY a,bj e];exact h
def Z4(l:X (Nat×U)):V Tmp->U->X (Nat×U)
 |none,_=>l|some d,u=>(d,u)::l
def h?(n:Nat):V Tmp->FK
 |none=>true|some d=>blt d n
def uD{d:V Tmp}(u:U)(b:h? n d=true):eS (fr n l) d u=fr n (Z4 l d u):=by
 obtain _|d:=d;rfl;have a:d<n:=zY b;refine za9 (by simp[eS,FT]) fun k g=>?_
 simp[eS,ja,FT,Z4,oM,beq_eq];by_cases e:d=k;subst e;simp[a];simp[e,MF,yB,zD];exact Q7 n l g
section
variable{P:Ua}{T:Tb}{a r:X Oper}{o:Oper}{n:Nat}{l:X (Nat×U)}{Y Y':Sg}{K:X U->Sg->Prop}{u:U}{C:PG}{d:Tmp}
def RS.op(j:cE a (fr n l) o=some true)(h:bJ T Y (fr n l) o.op=some (u,Y'))(e:o.dst=some d)(b:blt d n=true)(g:RU C T a r (fr n ((d,u)::l)) Y' K):RU C T a (o::r) (fr n l) Y K :=
 .inl ⟨j,u,Y',h,by rw[e,uD (d:=some d) u b];exact g⟩
def RS.iI(g:cE a (fr n l) o=some true)(h:bJ T Y (fr n l) o.op=some (u,Y'))(b:o.dst=none)(e:RU C T a r (fr n l) Y' K):RU C T a (o::r) (fr n l) Y K :=
 .inl ⟨g,u,Y',h,by rw[b];exact e⟩
def RS.no(h:cE a (fr n l) o=some false)(e:o.dst=some d)(b:blt d n=true)(g:RU C T a r (fr n ((d,.a7 [])::l)) Y K):RU C T a (o::r) (fr n l) Y K :=
 .inr (.inr<|.inl ⟨h,by rw[e,uD (d:=some d) _ b];exact g⟩)
variable{b:FK}
def RS.pP{t e m:TypeId}{h j:He}{g:X (X U)}(y:cE a (fr n l) o=some true)(w:o.op=.binOp .eql t h j m)(q:T.I1 t=some (.slice e))(A:bN n l h=some (.O b g))(B:bN n l j=some .J)(s:o.dst=some d)(p:blt d n=true)(v:∀z:FK,(z=true->g=[])->RU C T a r (fr n ((d,.bool z)::l)) Y K):RU C T a (o::r) (fr n l) Y K :=
 .inr (.inr<|.inr<|.inl ⟨y,t,h,j,m,e,b,g,w,q,dY A,dY B,fun z E=>by rw[s,uD (d:=some d) _ p];exact v z E⟩)
def RS.step{u:U}{Y':Sg}(s:cE a (fr n l) o=some true)(q:fY C Y (fr n l) o (fun g e=>g=u/\e=Y'))(m:o.dst=some d)(j:blt d n=true)(p:RU C T a r (fr n ((d,u)::l)) Y' K):RU C T a (o::r) (fr n l) Y K :=
 .inr (.inr<|.inr<|.inr ⟨s,_,q,fun g e h=>by rw[h.1,h.2,m,uD (d:=some d) _ j];exact p⟩)
def RS.done(h:K (fr n l) Y):RU C T a [] (fr n l) Y K:=h
def RS.call{f:FuncId}{args:X U}(m:cE a (fr n l) o=some true)(e:kQ T (fr n l) o.op=some (f,args))(p:b7 C.prog f args Y (fun q Y'=>q=u/\Y'=Y))(h:o.dst=some d)(g:blt d n=true)(j:RU C T a r (fr n ((d,u)::l)) Y K):RU C T a (o::r) (fr n l) Y K :=
 RU.tG m e p (by rw[h,uD (d:=some d) u g];exact j)
def RS.X7{C:PG}{f:FuncId}{args args':X U}{Y1:Sg}(q:cE a (fr n l) o=some true)(e:kQ T (fr n l) o.op=some (f,args))(j:Gh Y.nx args Y args' Y1)(p:Y.nx<=Y1.nx)(s:b7 C.prog f args' Y1 (fun t Y'=>t=u/\Y'=Y1)){d:Tmp}(h:o.dst=some d)(g:blt d n=true)(m:RU C T a r (fr n ((d,u)::l)) Y1 K):RU C T a (o::r) (fr n l) Y K :=
 RU.X7 q e j p s (by rw[h,uD (d:=some d) u g];exact m)
variable{j:Nat}{c:FK}
def uy(g:o.guard=some (j,c))(h:CZ a j=some d)(m:bN n l (.tmp d)=some (.bool b))(e:b=c):cE a (fr n l) o=some true:=by have:=dY m;simp[cX]at this;simp[cE,g,h,this,e]
def uz(g:o.guard=some (j,c))(h:CZ a j=some d)(m:bN n l (.tmp d)=some (.bool b))(e:b= !c):cE a (fr n l) o=some false:=by have:=dY m;simp[cX]at this;cases c<;>simp[cE,g,h,this,e]
def HI{q:X U}(e:o.guard=some (j,c))(g:CZ a j=some d)(h:bN n l (.tmp d)=some (.a7 q)):cE a (fr n l) o=some false:=by have:=dY h;simp[cX]at this;simp[cE,e,g,this]
end
section
variable{P:Ua}{T:Tb}{b r:X Oper}{o:Oper}{n:Nat}{l:X (Nat×U)}{Y Y':Sg}{c:X RK}{K:X RK->X U->Sg->Prop}{u:U}{d:Tmp}
def RD.look(j:cE b (fr n l) o=some true)(h:bJ T Y (fr n l) o.op=some (u,Y))(e:o.dst=some d)(a:blt d n=true)(g:RH P T b r (fr n ((d,u)::l)) Y ((1,⟨fr n l,o,u,false,false,Y,Y⟩)::c) K):RH P T b (o::r) (fr n l) Y c K :=
 .inl ⟨j,u,h,by rw[e,uD (d:=some d) u a];exact g⟩
def RD.act(j:cE b (fr n l) o=some true)(h:bJ T Y (fr n l) o.op=some (u,Y'))(e:o.dst=some d)(a:blt d n=true)(g:RH P T b r (fr n ((d,u)::l)) Y' ((3,⟨fr n l,o,u,true,true,Y,Y'⟩)::c) K):RH P T b (o::r) (fr n l) Y c K :=
 .inr (.inl ⟨j,u,Y',h,by rw[e,uD (d:=some d) u a];exact g⟩)
def Z2(g:cE b (fr n l) o=some true)(h:bJ T Y (fr n l) o.op=some (u,Y'))(a:o.dst=none)(e:RH P T b r (fr n l) Y' ((3,⟨fr n l,o,u,true,true,Y,Y'⟩)::c) K):RH P T b (o::r) (fr n l) Y c K :=
 .inr (.inl ⟨g,u,Y',h,by rw[a];exact e⟩)
def RD.no(h:cE b (fr n l) o=some false)(e:o.dst=some d)(a:blt d n=true)(g:RH P T b r (fr n ((d,.a7 [])::l)) Y ((0,⟨fr n l,o,.a7 [],false,false,Y,Y⟩)::c) K):RH P T b (o::r) (fr n l) Y c K :=
 .inr (.inr<|.inr<|.inr<|.inl ⟨h,by rw[e,uD (d:=some d) _ a];exact g⟩)
def RD.free{f:FuncId}{args:X U}(j:cE b (fr n l) o=some true)(a:kQ T (fr n l) o.op=some (f,args))(m:∀s,b7 P f args s fun p Y'=>p=u/\Y'=s)(g:o.dst=some d)(e:blt d n=true)(h:RH P T b r (fr n ((d,u)::l)) Y ((0,⟨fr n l,o,u,false,false,Y,Y⟩)::c) K):RH P T b (o::r) (fr n l) Y c K :=
 .inr (.inr<|.inr<|.inr<|.inr<|.inl ⟨j,u,.inl ⟨f,args,a,m⟩,by rw[g,uD (d:=some d) u e];exact h⟩)
def ux(j:cE b (fr n l) o=some true)(g:uY P T (fr n l) o.op u)(e:o.dst=some d)(a:blt d n=true)(h:RH P T b r (fr n ((d,u)::l)) Y ((0,⟨fr n l,o,u,false,false,Y,Y⟩)::c) K):RH P T b (o::r) (fr n l) Y c K :=
 .inr (.inr<|.inr<|.inr<|.inr<|.inl ⟨j,u,g,by rw[e,uD (d:=some d) u a];exact h⟩)
def RD.fz{u1:U}{s1 Y':Sg}(p:cE b (fr n l) o=some true)(h:bJ T Y (fr n l) o.op=some (u1,s1))(g:Gh s1.nx [u1] s1 [u] Y')(m:s1.nx<=Y'.nx)(e:o.dst=some d)(a:blt d n=true)(j:RH P T b r (fr n ((d,u)::l)) Y' ((3,⟨fr n l,o,u,true,true,Y,Y'⟩)::c) K):RH P T b (o::r) (fr n l) Y c K :=
 .inr (.inr<|.inr<|.inr<|.inr<|.inr ⟨p,u1,s1,d,u,Y',h,e,by rw[FT];rwa [uv]at a,g,m,by rw[e,uD (d:=some d) u a];exact j⟩)
def fY.fz{C:PG}(A:jW C.prog T){u1:U}{s1 Y':Sg}(h:bJ T Y (fr n l) o.op=some (u1,s1))(I:Gh s1.nx [u1] s1 [u] Y')(L:s1.nx<=Y'.nx)(E:o.dst=some d)(B:blt d n=true):fY C Y (fr n l) o (fun R g=>R=u/\g=Y'):=
 fun F x Z m w a next Q z st V J W S=>A4 (UU h) (St.sS A st o (by rw[z];exact h) E (by rw[FT];rwa [uv]at B) I L fun y t j e q v s p M N O=>J u y t j e q ⟨rfl,v⟩ s p M N O)
def RD.call{f:FuncId}{args:X U}(j:cE b (fr n l) o=some true)(a:kQ T (fr n l) o.op=some (f,args))(m:b7 P f args Y (fun p Y'=>p=u/\Y'=Y)){d:Tmp}(g:o.dst=some d)(e:blt d n=true)(h:RH P T b r (fr n ((d,u)::l)) Y ((2,⟨fr n l,o,u,true,false,Y,Y⟩)::c) K):RH P T b (o::r) (fr n l) Y c K :=
 RH.call j a m (by rw[g,uD (d:=some d) u e];exact h)
def RD.X7{f:FuncId}{args args':X U}{Y1:Sg}(p:cE b (fr n l) o=some true)(a:kQ T (fr n l) o.op=some (f,args))(h:Gh Y.nx args Y args' Y1)(m:Y.nx<=Y1.nx)(q:b7 P f args' Y1 (fun s Y'=>s=u/\Y'=Y1)){d:Tmp}(g:o.dst=some d)(e:blt d n=true)(j:RH P T b r (fr n ((d,u)::l)) Y1 ((3,⟨fr n l,o,u,true,true,Y,Y1⟩)::c) K):RH P T b (o::r) (fr n l) Y c K :=
 RH.X7 p a h m q (by rw[g,uD (d:=some d) u e];exact j)
def bB(h:K c (fr n l) Y):RH P T b [] (fr n l) Y c K:=h
end
def rL(l:X (Nat×U)):X (Nat×U)->Prop
 |[]=>True|(i,u)::r=>oM l i=some u/\rL l r
def quf{l:X (Nat×U)}:∀{r:X (Nat×U)},rL l r->∀i u,oM r i=some u->oM l i=some u
 |[],_,i,u,h=>by cases h
 |(j,v)::r,a,i,u,h=>by simp[rL]at a;simp[oM,beq_eq]at h;by_cases e:j=i;subst e;simp at h;subst h;exact a.1;simp[e,yB,zD]at h;exact quf a.2 i u h
def qw7{x:Cx}{a:X Value}(e:a.length=n)(h:∀i u,i<n->oM l i=some u->∃v,a[i]? = some v/\aF x u v):bD x (fr n l) a:=by
 refine bD.mk' (by rw[FT,e]) fun i u H=>?_;have d:i<n:=by have:=(zG.1 H).1;rwa [FT]at this
 rw[Q7 n l d]at H;cases b:oM l i with
 |none=>rw[b]at H;simp at H;subst H;exact⟨a[i],lq af,by simp[aF]⟩|some w=>rw[b]at H;simp at H;subst H;exact h i w d b
def qu8{x:Cx}{a:X Value}(b:bD x (fr n l) a){i:Nat}(H:i<n)(h:oM l i=some u):∃v,a[i]? = some v/\aF x u v :=
 b.get (by rw[Q7 n l H,h];rfl)
variable{n0:Nat}{l':X (Nat×U)}{Y:Sg}
def Gh.sub(h:rL l l'):Gh n0 (fr n l) Y (fr n l') Y:=fun F x g e j a b=>
 ⟨x,fun m w a=>bS.refl a,e,j,a,qw7 (by rw[<-b.2,FT]) fun i u H d=>qu8 b H<|quf h i u d,Ke.refl _ _⟩
def RZ:Nat->X U->X (Nat×U)
 |_,[]=>[]|i,u::l=>(i,u)::RZ (i+1) l
def qte:∀(l:X U)(i k:Nat)(u:U),oM (RZ i l) k=some u->i<=k/\l[k-i]? = some u
 |[],i,k,u,h=>by cases h
 |v::l,i,k,u,h=>by simp[RZ,oM,beq_eq]at h;by_cases e:i=k;subst e;simp at h;subst h;simp;simp[e,yB,zD]at h;have⟨b,a⟩:=qte l (i+1) k u h;refine⟨by omega,?_⟩;rw[show k-i=(k-(i+1))+1 by omega];simpa using a
def qyh:∀(n:Nat)(l:X U)(k:Nat)(u:U),l[k]? = some u->(H6 n l)[k]? = some u
 |0,l,k,u,h=>h|n+1,[],k,u,h=>by simp at h
 |n+1,v::l,0,u,h=>by simpa[H6]using h
 |n+1,v::l,k+1,u,h=>by simp[H6,zH]at*;exact qyh n l k u h
def qqv:∀(n:Nat)(l:X U),l.length<=n->(H6 n l).length=n
 |0,l,h=>by simp[H6];exact Zs af
 |n+1,[],h=>by simp[H6,qqv n [] aZ]
 |n+1,v::l,h=>by simp[H6,qqv n l<|by simpa using h]
def Ku{args:X U}(h:args.length<=n):Gh n0 (H6 n args) Y (fr n<|RZ 0 args) Y:=fun F x j g p a b=>
 ⟨x,fun m w a=>bS.refl a,g,p,a,qw7 (by rw[<-b.2,qqv n args h]) (fun i u H e=>by have⟨_,d⟩:=qte args 0 i u e;exact b.get<|qyh n args i u<|by simpa using d),Ke.refl _ _⟩
def ei(n:Nat):X (Nat×U)->Prop
 |[]=>True|(_,u)::l=>aW n u/\ei n l
def qse{n:Nat}:∀{l:X (Nat×U)},ei n l->∀i u,oM l i=some u->aW n u
 |[],_,i,u,h=>by cases h
 |(j,v)::l,a,i,u,h=>by simp[ei]at a;simp[oM,beq_eq]at h;by_cases e:j=i;subst e;simp at h;subst h;exact a.1;simp[e,yB,zD]at h;exact qse a.2 i u h
def Cd{a:Nat}(h:ei a l):aH a (fr n l):=by
 rw[y4];intro u e;obtain⟨i,H,rfl⟩:=Kh e;have b:i<n:=by rwa [FT]at H
 have:=Q7 n l b;rw[lq H]at this;simp[zA]at this;rw[this];rcases d:oM l i with _|w;simp[aW];exact qse h i w d
def Gh.DE{a:Nat}{Y':Sg}(m:rL l l')(j:(⟨Vx.cut a Y.h,a⟩:Sg)=Y')(b:n0<=a)(d:a<=Y.nx)(e:ei a l')(g:HA a Y'.h):Gh n0 (fr n l) Y (fr n l') Y':=by subst j;exact(Gh.sub m).trans (Gh.cut b d (Cd e) g)
def qR{Y':Sg}(b:rL l l')(a:Y=Y'):Gh n0 (fr n l) Y (fr n l') Y':=by subst a;exact Gh.sub b
def iJ(K:Nat)(b:B)(sz:Nat):X (Nat×U)->X (Nat×U)
 |[]=>[]|(i,u)::l=>(i,fz K b sz u)::iJ K b sz l
def qxu(K:Nat)(b:B)(sz:Nat):∀(l:X (Nat×U))(i:Nat),oM (iJ K b sz l) i=(oM l i).map (fz K b sz)
 |[],i=>rfl|(j,u)::l,i=>by simp[iJ,oM,beq_eq,qxu K b sz l i];by_cases e:j=i<;>simp[e]
def Im(K:Nat)(b:B)(sz n:Nat)(l:X (Nat×U)):iO K b sz (fr n l)=fr n (iJ K b sz l):=by
 refine za9 (by rw[Cb,FT]) fun k a=>?_;have hm:∀(t:X U)(k:Nat),(iO K b sz t)[k]? = (t[k]?).map (fz K b sz):=by
  intro t;induction t with
  |nil=>intro k;simp[iO]|cons u t d=>intro k;cases k<;>simp[iO,d]
 rw[hm,Q7 n l a,qxu];obtain _|w:=oM l k;simp[V2];rfl
def Gh.iJ{h':X (Nat×B)}(K:Nat)(b:B)(sz:Nat)(g:gt Y.h K=some b)(e:∀d a,b≠.map d a)(m:Vx.iJ K b sz l=l')(j:dd K b sz Y.h=h'):Gh n0 (fr n l) Y (fr n l') ⟨h',Y.nx⟩:=by subst m;subst j;rw[<-Im];exact Gh.freeze sz g e
inductive Rh:List (Nat×U)->List (Nat×U)->Prop
 |nil:Rh [] []
 |cons {i:Nat} {u u':U} {l l':List (Nat×U)} (h:Wk u u') (h':Rh l l'):Rh ((i,u)::l) ((i,u')::l')
def Rh.look:∀{l l':X (Nat×U)},Rh l l'->∀i b,oM l' i=some b->∃u,oM l i=some u/\Wk u b
 |_,_,.nil,i,b,h=>by cases h
 |_,_,.cons (i:=j) h d,i,b,a=>by simp[oM,beq_eq]at a ⊢;by_cases e:j=i;subst e;simp at a;subst a;exact⟨_,by simp,h⟩;simp[e,yB,zD]at a ⊢;exact d.look i b a
def Gh.sD(h:Rh l l'):Gh n0 (fr n l) Y (fr n l') Y:=fun F x r q s a b=>
 ⟨x,fun m w a=>bS.refl a,q,s,a,qw7 (by rw[<-b.2,FT]) (fun i u H p=>by have⟨w,d,e⟩:=h.look i u p;have⟨v,g,j⟩:=qu8 b H d;exact⟨v,g,e.rel j⟩),Ke.refl _ _⟩
def Gh.nF(i:Nat)(e:TypeId)(sz:Nat)(b:0<sz)(g:n0<=Y.nx)(H:bN n l (.tmp i)=some .J)(m:h? n (some i)=true):Gh n0 (fr n l) Y (fr n ((i,.vl Y.nx 0 0 0)::l)) (bE Y<|.vec [] e sz 0):=by
 have h:=dY H;have j:=Gh.kT (n0:=n0) (Y:=Y) i e sz b g (tm:=fr n l) h;have a:=uD (n:=n) (l:=l) (d:=some i) (.vl Y.nx 0 0 0) m;simp[eS,Z4]at a
 rwa [a]at j
variable{c:He}{t:FK}
def eE{C:PG}{Q:Exit->X U->Sg->Prop}{p q:Code}(d:bN n l c=some (.bool t))(a:t=true->I6 C n0 p (fr n l) Y Q)(b:t=false->I6 C n0 q (fr n l) Y Q):I6 C n0 (.cond c p q) (fr n l) Y Q:=I6.cond (dY d) a b
variable{T:Tb}{us:X U}
def dP{t:Tmp}{a:X ResultVar}(h:bN n l (.tmp t)=some u)(b:mF T Y (fr n l) a=some us):mF T Y (fr n l) (.tmp t::a)=some (u::us):=by have:=dY h;simp[cX]at this;simp[mF,this,b]
def dU:mF T Y (fr n l) []=some []:=rfl
variable{t:TypeId}
def nK{a:Tmp}{b:X ResultVar}(h:bJ T Y (fr n l) (.load t<|.tmp a)=some (u,Y))(g:mF T Y (fr n l) b=some us):mF T Y (fr n l) (.cell a t::b)=some (u::us):=by
 have:tB T Y (fr n l) (.load t<|.tmp a)=some u:=by have e:iV T Y (fr n l) (.load t<|.tmp a)=none:=rfl;have d:sW T Y (fr n l) (.load t<|.tmp a)=none:=rfl;unfold bJ at h;rw[e]at h;simp only at h;rcases g:tB T Y (fr n l) (.load t<|.tmp a)with _|v;rw[g,d]at h;cases h;rw[g]at h;simp at h;rw[h]
 simp[mF,this,g]
section
variable{T:Tb}{Y Y':Sg}{n:Nat}{l:X (Nat×U)}{u v w:U}
def vL{op:Op}(h:iV T Y (fr n l) op=some u):bJ T Y (fr n l) op=some (u,Y):=by simp[bJ,h]
def TJ{op:Op}(a:iV T Y (fr n l) op=none)(h:tB T Y (fr n l) op=some u):bJ T Y (fr n l) op=some (u,Y):=by simp[bJ,h,a]
variable{q:U×Sg}
def MY{op:Op}(a:iV T Y (fr n l) op=none)(b:tB T Y (fr n l) op=none)(h:sW T Y (fr n l) op=some q):bJ T Y (fr n l) op=some q:=by simp[bJ,h,a,b]
variable{x:He}
def jA(h:bN n l x=some u):bJ T Y (fr n l) (.move x)=some (u,Y):=vL (dY h)
def PE(h:bN n l x=some u):bJ T Y (fr n l) (.assign x)=some (u,Y):=vL (dY h)
variable{a:He}
def qy8{b:He}{t:FK}(d:bN n l c=some (.bool t))(e:t=true)(h:bN n l a=some u):bJ T Y (fr n l) (.pick c a b)=some (u,Y):=vL (by subst e;simp[iV,dY d];exact dY h)
def qy7{b:He}{t:FK}(d:bN n l c=some (.bool t))(e:t=false)(h:bN n l b=some u):bJ T Y (fr n l) (.pick c a b)=some (u,Y):=vL (by subst e;simp[iV,dY d];exact dY h)
variable{off:Nat}
def lV{st:Nat}(h:bN n l x=some (.ptr k st off))(b:live Y k st=true):bJ T Y (fr n l) (.nilCheck x)=some (.ptr k st off,Y):=vL (by simp[iV,dY h,b,zC])
def JM{b:Jg (Nat×He)}{qs:X (Nat×U)}(h:E9 n l b.toList=some qs)(d:Md T t qs=some u):bJ T Y (fr n l) (.build t b)=some (u,Y):=vL (by simp[iV,bj h,d])
variable{j:TypeId}{y:He}
def NQ{op:BinOp}(b:bN n l x=some v)(d:bN n l y=some w)(h:g2 (tA T op t) v w=some u):bJ T Y (fr n l) (.binOp op t x y j)=some (u,Y):=vL (by simp[iV,dY b,dY d,MJ,h])
def Ek{op:BinOp}(d:bN n l x=some v)(e:bN n l y=some w)(b:g2 (tA T op t) v w=none)(h:Ly T Y op t v w=some u):bJ T Y (fr n l) (.binOp op t x y j)=some (u,Y):=vL (by simp[iV,dY d,dY e,MJ,b,h])
variable{k:IntKind}{r:Value}
def xV{op:BinOp}{d:IntKind}{a b:Int}(e:bN n l x=some (.int k a))(g:bN n l y=some (.int d b))(h:lI op k a d b=some r)(m:kS r=some u):bJ T Y (fr n l) (.binOp op t x y j)=some (u,Y):=NQ e g (by simp[g2,cf,tA,h,m])
def HO{op:BinOp}{a b:X Yv}(d:bN n l x=some (.str a))(e:bN n l y=some (.str b))(h:J4 op ⟨⟨a⟩⟩ ⟨⟨b⟩⟩=some r)(g:kS r=some u):bJ T Y (fr n l) (.binOp op t x y j)=some (u,Y):=NQ d e (by simp[g2,cf,tA,h,g])
def W4{op:UnOp}(e:bN n l x=some v)(h:cf v=some (r)){q:Value}(d:TX op r=some q)(b:kS q=some u):bJ T Y (fr n l) (.unOp op t x)=some (u,Y):=vL (by simp[iV,dY e,g1,h,d,b])
def ec{s d:TypeId}{q:Value}(g:bN n l x=some v)(h:cf v=some r)(e:Q1 T s d r=some q)(b:kS q=some u):bJ T Y (fr n l) (.convert s d x)=some (u,Y):=vL (by simp[iV,dY g,g1,h,e,b])
def Lx{f:Fn}{first cap:Jg He}{a b:X U}(d:N4 n l first.toList=some a)(e:N4 n l cap.toList=some b):bJ T Y (fr n l) (.makeFunc f first cap)=some (.fn f a b,Y):=vL (by simp[iV,Mb d,Mb e])
variable{k:Nat}
def oW{f:Nat}{e:Jg Field}{d:Field}{s st:Nat}(g:T.I1 t=some (.struct e))(h:nth e.toList f=some d)(z:cP T d.type=some (s+1))(A:bN n l x=some (.ptr k st off))(m:live Y k st=true){b:Nat}(p:off+d.offset=b):bJ T Y (fr n l) (.fieldAddr t x f)=some (.ptr k st b,Y):=vL (by subst p;simp[iV,dY A,Vi,g,h,z,m,zC])
variable{q:X U}
def E?{f:Nat}{d:Jg Field}{b:Field}{s:Nat}(g:T.I1 t=some (.struct d))(h:nth d.toList f=some b)(p:cP T b.type=some (s+1))(z:bN n l x=some (.b4 q)){e:X U}(m:q.drop b.offset=e):bJ T Y (fr n l) (.fieldAddr t x f)=some (.b4 e,Y):=vL (by subst m;simp[iV,dY z,Vi,g,h,p])
def zaq{i:Nat}(b:bN n l x=some (.a7 q))(h:nth q i=some u):bJ T Y (fr n l) (.extract x i)=some (u,Y):=vL (by simp[iV,dY b,F',h])
def cV{i:He}(b:bN n l x=some v)(H:bN n l i=some w)(h:EG T Y t v w=some u):bJ T Y (fr n l) (.indexAddr t x i)=some (u,Y):=vL (by simp[iV,dY b,dY H,h])
variable{D:Type}{e:TypeId}{sz:Nat}{b:FK}{xs:X D}{i:Int}
def Lz(c:D->X U){k:IntKind}{x:D}(p:T.I1 t=some (.slice e))(z:cP T e=some sz)(m:∀x,(c x).length=sz)(A:aB xs i=some x)(s:c x=q):EG T Y t (.O b<|xs.map c) (.int k i)=some (.b4 q):=by
 subst s;obtain⟨d,g,h⟩:=z2t c A;have:Nat.beq (c x).length sz=true:=by simp[beq_eq,m]
 simp only[EG,p,z,yA,d,g,jm,It,h,this,zC]
variable{e':TypeId}{K:Nat}
def gP(c:D->X U){st:Nat}{k:IntKind}{x:D}(z:T.I1 t=some (.slice e))(A:cP T e=some sz)(E:0<sz)(s:∀x,(c x).length=sz)(B:pR Y K st=some ((xs.map c).flatten,e',sz))(d:aB xs i=some x):EG T Y t (.vl K st 0 xs.length) (.int k i)=some (.ptr K st<|0*sz+i.toNat*sz):=by
 have⟨h,m,F⟩:=QH d;have g:=ZE s E d;have p:Nat.beq sz sz=true:=by simp[beq_eq]
 simp[EG,z,A,B,p,zC,h,m,ea,g,jg,jm,It]
variable{d:TypeDesc}
def zaj(c:D->X U){st:Nat}{x:D}(s:T.I1 t=some d)(g:sG d=true)(B:cP T t=some sz)(p:∀x,(c x).length=sz)(z:bN n l o=some (.ptr K st<|0*sz+i.toNat*sz))(E:gt Y.h K=some (.vec (xs.map c).flatten e' sz st))(F:aB xs i=some x)(A:c x=q):bJ T Y (fr n l) (.load t o)=some (.agg q,Y):=by
 subst A;refine TJ rfl ?_;have m:Nat.beq st st=true:=by simp[beq_eq]
 simp only[tB,dY z,cellsOf,E,m,zC,HJ,s,g,B,z69 p F]
def o8(c:D->X U){st:Nat}{x:D}(f:D->U)(s:T.I1 t=some d)(m:sG d=false)(g:∀x,c x=[f x])(z:bN n l o=some (.ptr K st<|0*1+i.toNat*1))(A:gt Y.h K=some (.vec (xs.map c).flatten e' 1 st))(B:aB xs i=some x):bJ T Y (fr n l) (.load t o)=some (f x,Y):=by
 refine TJ rfl ?_;have p:Nat.beq st st=true:=by simp[beq_eq]
 simp only[tB,dY z,cellsOf,A,p,zC,HJ,s,m,zD,zds (fun x=>by rw[g];rfl) g B]
def tE{G H:V He}{a b:V Value}(p:bN n l x=some v)(g:D1 (fr n l) G=some a)(m:D1 (fr n l) H=some b)(h:UP T Y t v a b=some u):bJ T Y (fr n l) (.slice t x G H none)=some (u,Y):=vL (by simp[iV,dY p,g,m,h])
def uC:D1 (fr n l) none=some none:=rfl
def uB{k:IntKind}{z:Int}(h:bN n l o=some (.int k z)):D1 (fr n l) (some o)=some (some<|.int k z):=by simp[D1,dY h]
def zP(c:D->X U){a h m:Nat}{g:X D}{G H:V Value}(z:T.I1 t=some (.slice e))(A:cP T e=some sz)(s:∀x,(c x).length=sz)(p:o9 xs.length xs.length G H=some (a,h,m))(B:vM (xs.map c) a h=g.map c):UP T Y t (.O b<|xs.map c) G H=some (.O (cond b (Nat.beq h xs.length) false)<|g.map c):=by simp[UP,z,A,z0w s xs,It,yA,p,B]
variable{args:Jg He}{ts:Jg TypeId}
def HP(g:args.toList=[x]){q:X TypeId}(m:ts.toList=t::q)(p:bN n l x=some v)(h:yU T Y t v=some u):bJ T Y (fr n l) (.call { callee:=.builtin .len,args:=args,argTypes:=ts })=some (u,Y):=vL (by simp[iV,g,m,pT,dY p,h])
def qvb(c:D->X U)(g:T.I1 t=some (.slice e)):yU T Y t (.O b<|xs.map c)=some (.int .i64 xs.length):=by simp[yU,g]
def zar{xs:X He}{a:Value}{b:X Value}(p:args.toList=x::xs)(z:bN n l x=some v)(s:N4 n l xs=some us)(g:cf v=some a)(m:mO us=some b)(h:yZ UL a b=some r)(A:kS r=some u):bJ T Y (fr n l) (.call { callee:=.builtin .max,args:=args,argTypes:=ts })=some (u,Y):=vL (by simp[iV,p,pT,dY z,Mb s,g,m,h,A])
def Y?{xs:X He}{a:Value}{b:X Value}(p:args.toList=x::xs)(z:bN n l x=some v)(s:N4 n l xs=some us)(g:cf v=some a)(m:mO us=some b)(h:yZ UK a b=some r)(A:kS r=some u):bJ T Y (fr n l) (.call { callee:=.builtin .min,args:=args,argTypes:=ts })=some (u,Y):=vL (by simp[iV,p,pT,dY z,Mb s,g,m,h,A])
variable{cs:X U}
def kR{st:Nat}(p:T.I1 t=some d)(g:sG d=true)(s:cP T t=some sz)(z:bN n l x=some (.ptr k st off))(m:cellsOf Y k st=some q)(h:mD q off sz=some cs):bJ T Y (fr n l) (.load t x)=some (.agg cs,Y):=TJ rfl (by simp[tB,dY z,m,HJ,p,g,s,h,zC])
def uE{st:Nat}(p:T.I1 t=some d)(g:sG d=false)(s:bN n l x=some (.ptr k st off))(m:cellsOf Y k st=some q)(h:nth q off=some u):bJ T Y (fr n l) (.load t x)=some (u,Y):=TJ rfl (by simp[tB,dY s,m,HJ,p,g,h,zD])
def zak(m:T.I1 t=some d)(g:sG d=true)(p:cP T t=some sz)(s:bN n l x=some (.b4 q))(h:mD q 0 sz=some cs):bJ T Y (fr n l) (.load t x)=some (.agg cs,Y):=TJ rfl (by simp[tB,dY s,HJ,m,g,p,h,zC])
def Ug(m:T.I1 t=some d)(g:sG d=false)(p:bN n l x=some (.b4 q))(h:nth q 0=some u):bJ T Y (fr n l) (.load t x)=some (u,Y):=TJ rfl (by simp[tB,dY p,HJ,m,g,h,zD])
def Em(m:bN n l x=some v)(h:xX v=some cs)(g:I8 cs=true):bJ T Y (fr n l) (.box e x)=some (.ptr Y.nx 0 0,bE Y<|.row cs e):=MY rfl rfl (by simp[sW,dY m,h,g,zC])
variable{z:Value}
def qy5{a b:Nat}{g:X U}(H:T.inf e=some (a,b,z))(m:rN z.cells.toList=some g)(h:I8 g=true):bJ T Y (fr n l) (.alloc e)=some (.ptr Y.nx 0 0,bE Y<|.row g e):=MY rfl rfl (by simp[sW,H,m,h,zC])
def qy9{st:Nat}{q':X U}(E:cP T t=some sz)(h:bN n l a=some (.ptr k st off))(F:bN n l x=some v)(m:xX v=some cs)(A:Nat.beq cs.length sz=true)(s:I8 cs=true)(p:cellsOf Y k st=some q)(B:sV q off (HD Y k cs)=some q')(g:PY Y k q'=some Y'):bJ T Y (fr n l) (.store t a x)=some (.J9,Y'):=MY rfl rfl (by simp[sW,dY h,dY F,Bn,E,m,A,s,zC,p,B,g])
def Zm{g:Jg (Nat×He)}{m:X (Nat×U)}{q:U×Sg}(h:E9 n l g.toList=some m)(p:Vn T Y t k m=some q):bJ T Y (fr n l) (.buildSlice t k g)=some q:=MY rfl rfl (by simp[sW,bj h,p])
def Zl{q:U×Sg}(h:bN n l x=some v)(m:bN n l y=some w)(g:Rq T Y t v w=some q):bJ T Y (fr n l) (.makeSlice t x y)=some q:=MY rfl rfl (by simp[sW,dY h,dY m,g])
variable{d:TypeId}
def qV{q:U×Sg}(g:args.toList=[x,y])(m:ts.toList=[t,d])(p:bN n l x=some v)(s:bN n l y=some w)(h:EF T Y t d v w=some q):bJ T Y (fr n l) (.call { callee:=.builtin .append,args:=args,argTypes:=ts })=some q:=MY rfl rfl (by simp[sW,g,m,pT,dY p,dY s,J',h])
def qW{c:Call}{f:He}{g:FuncId}{fn:Func}{first cap h:X U}(s:c.callee=.value f)(B:bN n l f=some (.fn (.func g) first cap))(E:T.fn g=some fn)(p:fn.body.isSome=true)(m:N4 n l c.args.toList=some h){args:X U}(A:first++h++cap=args):kQ T (fr n l) (.call c)=some (g,args):=by subst A;simp[kQ,s,dY B,E,p,zC,Mb m]
variable{f:TypeId}{g:Nat}
def quq(c:D->X U)(h:X D)(p:T.I1 t=some (.slice e))(m:T.I1 d=some (.slice f))(H:T.inf e=some (sz+1,g,z))(A:Nat.beq z.cells.toList.length (sz+1)=true)(s:xP Y (sz+1) w=some (h.length,(h.map c).flatten))(B:h.length*g<=140737488355328/\h.length<=140737488355328):EF T Y t d .J w=some (.vl Y.nx 0 0 h.length,bE Y<|.vec (h.map c).flatten e (sz+1) 0):=by simp only[EF,p,m,H,A,zC,s,B,jm,It]
def Ce(c:D->X U)(h:X D){a:Nat}(p:T.I1 t=some (.slice e))(m:T.I1 d=some (.slice f))(H:T.inf e=some (sz+1,g,z))(B:Nat.beq z.cells.toList.length (sz+1)=true)(s:rowOf Y a=some q)(E:ble off q.length=true)(A:xP Y (sz+1) w=some (h.length,(h.map c).flatten))(F:h.length*g<=140737488355328/\h.length<=140737488355328):EF T Y t d (.sl a off 0 0) w=some (.vl Y.nx 0 0 h.length,bE Y<|.vec (h.map c).flatten e (sz+1) 0):=by simp only[EF,p,m,H,B,zC,A,s,F,jm,It]
def ED(c:D->X U)(m:X D){a st:Nat}(F:T.I1 t=some (.slice e))(E:T.I1 d=some (.slice f))(H:T.inf e=some (sz+1,g,z))(N:Nat.beq z.cells.toList.length (sz+1)=true)(p:∀x,(c x).length=sz+1)(I:gt Y.h a=some (.vec (xs.map c).flatten e (sz+1) st))(M:xP Y (sz+1) w=some (m.length,(m.map c).flatten))(O:(xs.length+m.length)*g<=140737488355328/\xs.length+m.length<=140737488355328):EF T Y t d (.vl a st 0 xs.length) w=some (.vl a (st+1) 0 (xs++m).length,⟨ug Y.h a<|.vec ((xs++m).map c).flatten e (sz+1) (st+1),Y.nx⟩):=by
 have s:Nat.beq st st=true:=by simp[beq_eq]
 have A:Nat.beq e e=true:=by simp[beq_eq]
 have B:Nat.beq (sz+1) (sz+1)=true:=by simp[beq_eq]
 have L:=zda p xs;have J:=FX p xs;rw[qxb,zU];simp only[EF,F,E,H,N,zC,M,I,s,A,B,L,J,O.1,O.2,dG,cO,or_true,It]
def z6t(c:D->X U)(h:X D)(p:T.I1 t=some (.slice e))(m:T.I1 d=some (.slice f))(H:T.inf e=some (sz+1,g,z))(B:Nat.beq z.cells.toList.length (sz+1)=true)(A:xP Y (sz+1) w=some (h.length,(h.map c).flatten))(s:0<h.length)(E:h.length*g<=140737488355328/\h.length<=140737488355328):EF T Y t d (.O true []) w=some (.vl Y.nx 0 0 ([]++h).length,bE Y<|.vec (([]++h).map c).flatten e (sz+1) 0):=by simp only[EF,p,m,H,B,zC,A,E,s,jm,It,X0]
def QB(c:D->X U)(h:∀x,(c x).length=sz):xP Y sz (.O b<|xs.map c)=some (xs.length,(xs.map c).flatten):=by simp[xP,z0w h xs,It,yA]
def FU(c:D->X U)(h:X D)(s:rowOf Y K=some q)(A:mD q off (k*sz)=some cs)(p:k=h.length)(m:yN cs=(h.map c).flatten):xP Y sz (.sl K off k k)=some (h.length,(h.map c).flatten):=by subst p;simp[xP,s,A,m]
def aV{a b:Nat}(h:T.inf t=some (a,b,z)):cP T t=some a:=by simp[cP,h]
def vo{st:Nat}(h:gt Y.h K=some (.vec q e sz st)):pR Y K st=some (q,e,sz):=by
 have b:Nat.beq st st=true:=by simp[beq_eq]
 simp[pR,h,b,zC]
def z2z{st m:Nat}(p:T.I1 t=some (.slice e))(h:gt Y.h K=some (.vec q e' sz st)):yU T Y t (.vl K st 0 m)=some (.int .i64 m):=by
 have b:Nat.beq st st=true:=by simp[beq_eq]
 simp[yU,p,live,h,B.st,b,zC]
end
def Fl(k:IntKind)(a b:Int):lI .add k a k b=some (.int k<|k.wrap<|a+b):=by simp[lI]
def Fa(k:IntKind)(a b:Int):lI .sub k a k b=some (.int k<|k.wrap<|a-b):=by simp[lI]
def Ff(k:IntKind)(a b:Int):lI .mul k a k b=some (.int k<|k.wrap<|a*b):=by simp[lI]
def bf(k:IntKind){a b:Int}(h:¬ b=0):lI .quo k a k b=some (.int k<|k.wrap<|a.tdiv b):=by simp[lI,h]
def NJ(k:IntKind){a b:Int}(h:¬ b=0):lI .rem k a k b=some (.int k<|a.tmod b):=by simp[lI,h]
def Fk(k:IntKind)(a b:Int):lI .eql k a k b=some (.bool<|a==b):=by simp[lI]
def Fe(k:IntKind)(a b:Int):lI .neq k a k b=some (.bool<|a != b):=by simp[lI]
def Fg(k:IntKind)(a b:Int):lI .lss k a k b=some (.bool<|decide (a<b)):=by simp[lI]
def Fh(k:IntKind)(a b:Int):lI .leq k a k b=some (.bool<|decide (a<=b)):=by simp[lI]
def Fi(k:IntKind)(a b:Int):lI .gtr k a k b=some (.bool<|decide (a>b)):=by simp[lI]
def Fj(k:IntKind)(a b:Int):lI .geq k a k b=some (.bool<|decide (a>=b)):=by simp[lI]
def Gh.row{n0:Nat}{tm:X U}{Y:Sg}{K:Nat}{q j:X U}{e:TypeId}(z:gt Y.h K=some (.row q e))(hk:I8 j=true)(jJ:∀x P,x.Y=Y->jV x->bD x q P->bD x j P):Gh n0 tm Y tm ⟨ug Y.h K<|.row j e,Y.nx⟩:=fun F x tv hx hr L M=>by
 subst hx
 let y:Cx:=⟨x.I,⟨ug x.Y.h K<|.row j e,x.Y.nx⟩,x.s⟩
 have B:∀k,gt y.Y.h k=if K=k then some (.row j e)else gt x.Y.h k:=fun k=>by show gt (ug x.Y.h K<|.row j e) k=_;rw[bV,z];rfl
 have J:Mo x.Y.nx x y:=⟨fun k _ g=>⟨g,fun b a=>by rw[B]at a;by_cases d:K=k;subst d;simp[It,zA]at a;subst a;exact⟨_,z,zF _,fun _=>⟨rfl,fun l e sz st h=>by cases h⟩⟩;simp[d,MF]at a;exact⟨b,a,zF _,fun _=>⟨rfl,fun l e sz st h=>⟨l,h⟩⟩⟩⟩,fun _ _ _ h=>h⟩;refine⟨y,fun m w L=>bS.refl L,rfl,⟨fun k b a=>?_,fun k N b R i a V=>?_,hr.bd⟩,fun i b O=>?_,J.ke.E M.K3 M,fun u v a hr=>J.ke u v (aF.K3 u v hr) hr⟩;rw[B]at a;by_cases d:K=k;subst d;simp[It,zA]at a;subst a;have⟨p,k1,i,l',W,Z,e3⟩:=hr.ok K _ z;have:=jJ x l' rfl hr e3;exact⟨p,hk,i,l',W,Z,J.ke.E this.K3 this⟩;simp[d,MF]at a;have⟨p,g⟩:=hr.ok k b a;exact⟨p,g.mono J rfl fun _ _ _ h=>h⟩;have A:∀k b,gt y.Y.h k=some b->∃c,gt x.Y.h k=some c:=fun k b a=>by rw[B]at a;by_cases d:K=k;subst d;exact⟨_,z⟩;simp[d,MF]at a;exact⟨b,a⟩
 have⟨c,r⟩:=A k b a;have⟨S,qN⟩:=A N R V;exact hr.inj k N c S i r qN;have⟨p,g⟩:=L i b O;refine⟨p,fun k c r=>?_⟩;rw[B]at r;by_cases d:K=k;subst d;exact g _ _ z;simp[d,MF]at r;exact g k c r
def xK{n0:Nat}{tm:X U}{Y:Sg}(K i:Nat){q:X U}{e0:TypeId}(e:TypeId)(sz:Nat)(fN:0<sz)(W:n0<=Y.nx)(S:gt Y.h K=some (.row q e0))(H:nth q i=some .J):Gh n0 tm Y tm ⟨ug (bE Y<|.vec [] e sz 0).h K (.row (q.set i<|.vl Y.nx 0 0 0) e0),Y.nx+1⟩:=fun F x tv hx hr P he=>by
 subst hx;have hK:=(hr.ok K _ S).1;have⟨_,k1,_⟩:=hr.ok K _ S;have g:=qo8 hr e sz fN;rw[lW]at H
 let y:Cx:=⟨nI x.I x.Y.nx none,bE x.Y<|.vec [] e sz 0,x.s⟩
 have r:gt y.Y.h K=some (.row q e0):=by show gt ((x.Y.nx,_)::x.Y.h) K=_;rw[aR,hF af,S]
 let z:Cx:=⟨y.I,⟨ug y.Y.h K<|.row (q.set i<|.vl x.Y.nx 0 0 0) e0,y.Y.nx⟩,y.s⟩
 have M:∀k,gt z.Y.h k=if K=k then some (.row (q.set i<|.vl x.Y.nx 0 0 0) e0)else gt y.Y.h k:=fun k=>by show gt (ug y.Y.h K _) k=_;rw[bV,r];rfl
 have N:Mo y.Y.nx y z:=⟨fun k _ p=>⟨p,fun b a=>by rw[M]at a;by_cases d:K=k;subst d;simp[It,zA]at a;subst a;exact⟨_,r,zF _,fun _=>⟨rfl,fun l e sz st h=>by cases h⟩⟩;simp[d,MF]at a;exact⟨b,a,zF _,fun _=>⟨rfl,fun l e sz st h=>⟨l,h⟩⟩⟩⟩,fun _ _ _ h=>h⟩;have J:=g.mo.ke.E he.K3 he;have R:=g.fr F P;refine⟨z,fun m w P=>bS.refl P,rfl,⟨fun k b a=>?_,fun k k' b b' j a cZ=>?_,g.h.bd⟩,fun j b O=>?_,N.ke.E J.K3 J,fun u v a hr=>N.ke u v (aF.K3 u v<|g.mo.ke.le W u v a hr)<|g.mo.ke.le W u v a hr⟩;rw[M]at a;by_cases d:K=k;subst d;simp[It,zA]at a;subst a;have⟨A,k1,j,l',e1,e2,V⟩:=g.h.ok K _ r;refine⟨A,?_,j,l',e1,e2,?_⟩;refine(NX _).2 fun u hu=>?_;obtain h |h:=H_ hu
 exact(NX q).1 k1 u h;subst h;rfl;have⟨v,h3,Z⟩:=V.get H;simp[aF]at Z;subst Z;have:=V.set i<|qil (x:=x) (e:=e) (sz:=sz) (o:=none) aZ;rw[qyy h3]at this;exact N.ke.E this.K3 this;simp[d,MF]at a;have⟨A,p⟩:=g.h.ok k b a;exact⟨A,p.mono N rfl fun _ _ _ h=>h⟩;have L:∀k b,gt z.Y.h k=some b->∃c,gt y.Y.h k=some c:=fun k b a=>by rw[M]at a;by_cases d:K=k;subst d;exact⟨_,r⟩;simp[d,MF]at a;exact⟨b,a⟩
 have⟨c,B⟩:=L k b a;have⟨c',qN⟩:=L k' b' cZ;exact g.h.inj k k' c c' j B qN;have⟨A,p⟩:=R j b O;refine⟨A,fun k c B=>?_⟩;rw[M]at B;by_cases d:K=k;subst d;exact p _ _ r;simp[d,MF]at B;exact p k c B
def iK(k:IntKind)(x:Int):(cI k x).length=1:=rfl
def Q4(x:X Yv):(cS x).length=1:=rfl
def FR{D:Type}(c:D->X U)(x:X D):(cL c x).length=1:=rfl
section
variable{T:Tb}{Y Y':Sg}{n:Nat}{l:X (Nat×U)}{u v w:U}
def zbc{a b:X Yv}(h:a.length+b.length<=9223372036854775807):J4 .add ⟨⟨a⟩⟩ ⟨⟨b⟩⟩=some (.string ⟨(a++b).toArray⟩):=by
 have:¬ (((a.length+b.length:Nat):Int)>9223372036854775807):=by omega
 simp only[J4,this,MF]
end
def b7.post{P:Ua}{f:FuncId}{args:X U}{Y:Sg}{R p:U->Sg->Prop}(h:b7 P f args Y R)(hg:∀u q,R u q->∃g d,Y.nx<=d.nx/\Gh Y.nx [u] q [g] d/\p g d):b7 P f args Y p:=fun F x vs m w a j hh M he L I=>by
 refine(h F x vs m w a j hh M he L I).mono ?_;rintro e b ⟨y,r,u,v,J,O,S,A,V,W,Z,h7,B,h9⟩;have⟨g,d,g1,g2,N⟩:=hg u y.Y S;have⟨z,z1,E,z3,z4,z5,z6⟩:=g2 F y [v] rfl W Z (bD.cons h7<|bD.nil y);have⟨v0,pb,K,z7,_⟩:=z5.inv;cases K;have s:=z1 r b A.fits;exact⟨z,r,g,v,J,O,E ▸ N,A.trans s,V.ext (aP.refl _ _) s.nx,z3,z4,z7,by rw[j]at B ⊢;exact B.trans z6,by rw[j,E];exact g1⟩
mutual
def qw0(Z:Nat->Nat):(u:U)->aW 0 u->rU Z u=u
 |.ptr k _ _,h=>by simp[aW]at h
 |.sl k _ _ _,h=>by simp[aW]at h
 |.vl k _ _ _,h=>by simp[aW]at h
 |.map k,h=>by simp[aW]at h
 |.b4 l,h=>by simp[aW]at h;simp[rU,O2 Z l h]
 |.O t l,h=>by simp[aW]at h;simp[rU,qr2 Z l h]
 |.fn f a b,h=>by simp[aW]at h;simp[rU,O2 Z a h.1,O2 Z b h.2]
 |.agg l,h=>by simp[aW]at h;simp[rU,O2 Z l h]
 |.a7 l,h=>by simp[aW]at h;simp[rU,O2 Z l h]
 |.J9,_=>rfl|.bool _,_=>rfl
 |.int _ _,_=>rfl|.str _,_=>rfl
 |.b6,_=>rfl|.J,_=>rfl
 |.e6,_=>rfl|.e9,_=>rfl
 |.k9,_=>rfl
def O2(Z:Nat->Nat):(l:X U)->aH 0 l->fP Z l=l
 |[],_=>rfl|u::l,h=>by simp[aH]at h;simp[fP,qw0 Z u h.1,O2 Z l h.2]
def qr2(Z:Nat->Nat):(l:X (X U))->lU 0 l->vJ Z l=l
 |[],_=>rfl|c::l,h=>by simp[lU]at h;simp[vJ,O2 Z c h.1,qr2 Z l h.2]
end
section
variable{P:Ua}{T:Tb}{a r:X Oper}{o:Oper}{n:Nat}{l:X (Nat×U)}{Y:Sg}{K:X U->Sg->Prop}
def j8{C:PG}{f:FuncId}{args:X U}{R:U->Sg->Prop}(m:cE a (fr n l) o=some true)(b:kQ T (fr n l) o.op=some (f,args))(p:b7 C.prog f args Y R){d:Tmp}(g:o.dst=some d)(e:blt d n=true)(j:∀u Y',R u Y'->RU C T a r (fr n ((d,u)::l)) Y' K):RU C T a (o::r) (fr n l) Y K :=
 RU.call m b p (fun u Y' h=>by rw[g,uD (d:=some d) u e];exact j u Y' h)
end
section
variable{Q:Exit->X U->Sg->Prop}{K:X U->Sg->Prop}{tm:X U}{Y:Sg}{i j n0:Nat}{E:X U->Sg->Prop}
def q1(h:K tm Y):BP K Q .normal tm Y:=h
def q2(h:Q (.exit i) tm Y):BP K Q (.exit i) tm Y:=h
def q3(h:Q .ret tm Y):BP K Q .ret tm Y:=h
def q4(h:Q .normal tm Y):wK i Q .normal tm Y:=h
def q5(h:Q .ret tm Y):wK i Q .ret tm Y:=h
def q6(h:Q .normal tm Y):wK i Q (.exit i) tm Y:=ze h
def q7(a:¬ j=i)(h:Q (.exit j) tm Y):wK i Q (.exit j) tm Y:=zd a h
def q8(h:∃tm' Y',E tm' Y'/\n0<=Y'.nx/\Gh n0 tm Y tm' Y'):CV n0 E Q .normal tm Y:=h
def q9(h:Q .ret tm Y):CV n0 E Q .ret tm Y:=h
def q0(h:Q (.exit i) tm Y):CV n0 E Q (.exit i) tm Y:=h
end
def z64:∀{h:X (Nat×B)}{k:Nat}{b:B},gt h k=some b->ug h k b=h
 |[],k,b,a=>by cases a
 |(j,c)::h,k,b,a=>by simp[gt,ug,beq_eq]at*;by_cases e:j=k;subst e;simp[yC,zC,zA]at*;rw[a];simp[e,yB,zD]at*;rw[z64 a]
variable{n:Nat}
def bS.lB{m:Nm}{s:S}{w:Ep}(d:gZ m s w){i:Nat}{l:X Value}{e:Nat}(g:lk s.h i=some (.inl (l,e,n+2)))(j:Nat):bS m s w m ⟨up s.h i<|.inl (l.take j,e,n+2),s.nx⟩ w:=by
 refine bS.write d g rfl (fun k z=>rfl) rfl rfl rfl rfl (zF _) fun a v=>?_;have⟨pre,b,q,r,y⟩:=(d a v).ok i _ g;refine⟨pre,aL a (l.drop j)++b,?_,r,?_⟩;rw[q];congr 3;have:aL a l=aL a (l.take j)++aL a (l.drop j):=by rw[<-JS,l7]
 rw[this];simp[zT];have p:(aL a<|l.drop j).length=l.length-j:=by rw[nE];simp
 rw[zU,p,Yz];omega
def Gh.lB{n0:Nat}{tm:X U}{Y:Sg}{K:Nat}{l:X U}{e:TypeId}{sz st:Nat}(g:gt Y.h K=some (.vec l e sz st))(j:Nat):Gh n0 tm Y tm ⟨ug Y.h K<|.vec (l.take j) e sz st,Y.nx⟩:=fun F x N A O a d=>by
 subst A;have⟨_,B,I,J⟩:=O.ok K _ g;obtain⟨rfl,L⟩|⟨i,s,z,p,q⟩:=J;rw[take_nil,z64 g];exact⟨x,fun m w a=>bS.refl a,rfl,O,a,d,Ke.refl _ _⟩;have b:=Ux O (c:=.inl (s.take j,e,sz+2)) (bK:=.vec (l.take j) e sz st) g z p rfl (by rintro l e sz st h;cases h;exact⟨_,rfl⟩) fun y q1 q2 hm=>⟨V6 B j,I,.inr ⟨i,s.take j,q1,q2,(hm.ke.E q.K3 q).take j⟩⟩
 refine⟨_,fun m w a=>bS.lB a p j,rfl,b.h,b.fr F a,?_,?_⟩;exact d.mono b.mo d.K3;exact fun u v M r=>aF.mono b.mo u v (aF.K3 u v r) r
variable{D:Type}{n0:Nat}{tm:X U}{Y:Sg}{K:Nat}{xs:X D}{e:TypeId}{sz:Nat}
def Gh.pV(c:D->X U){st:Nat}(a:∀x,(c x).length=sz)(b:gt Y.h K=some (.vec (xs.map c).flatten e sz st))(j:Nat):Gh n0 tm Y tm ⟨ug Y.h K<|.vec ((xs.take j).map c).flatten e sz st,Y.nx⟩:=by
 have:=Gh.lB (n0:=n0) (tm:=tm) b (j*sz)
 rwa [Z_ a]at this
def No(p:Nat->FK):∀(h:X (Nat×B))(k:Nat),gt (h.filter fun x=>p x.1) k=if p k then gt h k else none
 |[],k=>by simp[gt]
 |(j,b)::h,k=>by
  rw[iZ];cases a:p j with
  |true=>simp[It,aR,No p h k];by_cases e:j=k;subst e;simp[a];simp[e]|false=>simp[gj,MF,No p h k,aR];by_cases e:j=k;subst e;simp[a];simp[e]
def Gh.only{n0:Nat}{tm:X U}{Y:Sg}(p:Nat->FK):Gh n0 tm Y tm ⟨Y.h.filter fun x=>p x.1,Y.nx⟩:=fun F x L E M z A=>by
 subst E;have mo:∀n,Mo n x ⟨x.I,⟨x.Y.h.filter fun y=>p y.1,x.Y.nx⟩,x.s⟩:=fun n=>⟨fun k _ g=>⟨g,fun r d=>by simp only[No]at d;split at d;exact⟨r,d,zF _,fun _=>⟨rfl,fun l e sz st h=>⟨l,h⟩⟩⟩;cases d⟩,fun _ _ _ h=>h⟩;refine⟨⟨x.I,⟨x.Y.h.filter fun y=>p y.1,x.Y.nx⟩,x.s⟩,fun m w z=>bS.refl z,rfl,⟨?_,?_,M.bd⟩,?_,A.mono (mo _) A.K3,fun u v a B=>aF.mono (mo _) u v (aF.K3 u v B) B⟩;intro k b a;simp only[No]at a;split at a;have⟨j,g⟩:=M.ok k b a;exact⟨j,g.mono (mo _) rfl (fun i c _ h=>h)⟩;cases a;intro k J b r i a d j g;simp only[No]at a d;split at a;split at d;exact M.inj k J b r i a d j g;cases d;cases a;intro i b O;obtain⟨j,g⟩:=z i b O;refine⟨j,fun k c q=>?_⟩;simp only[No]at q;split at q;exact g k c q;cases q
def gU{D:Type}(l:X D)(off n:Nat)(i:Int):V D:=if 0<=i/\i<(n:Int)then l[off+i.toNat]? else none
variable{off:Nat}{i:Int}{x:D}
def V7{l:X D}(h:gU l off n i=some x):0<=i/\i<(n:Int)/\l[off+i.toNat]? = some x:=by unfold gU at h;split at h;rename_i H;exact⟨H.1,H.2,h⟩;cases h
section
variable{D:Type}{c:D->X U}{sz:Nat}(a:∀x,(c x).length=sz)
include a
def qv6{xs:X D}{j:Nat}{x:D}(h:xs[j]? = some x):mD (xs.map c).flatten (j*sz) sz=some (c x):=by
 have b:=(zG.1 h).1;unfold mD;rw[FX a,ab a];have e:xs.drop j=x::xs.drop (j+1):=by rw[Zq b];congr;exact(zG.1 h).2
 rw[e,lr (by rw[<-eM];exact tp _ b)];simp[zQ,YP];have:=a x;rw[<-this,SI];rfl
def UF{xs:X D}{j:Nat}(h:j<xs.length)(x:D):sV (xs.map c).flatten (j*sz) (c x)=some ((xs.set j x).map c).flatten:=by unfold sV;rw[FX a,a,lr (by rw[<-eM];exact tp _ h),<-eM,ab a,Z_ a,set_eq_take_append_cons_drop,lr h];simp
end
section
variable{T:Tb}{Y Y':Sg}{n:Nat}{l:X (Nat×U)}{u v w:U}{t:TypeId}{e':TypeId}{m:Nat}
def WS(c:D->X U){st:Nat}{k:IntKind}(q:T.I1 t=some (.slice e))(r:cP T e=some sz)(z:0<sz)(p:∀x,(c x).length=sz)(s:pR Y K st=some ((xs.map c).flatten,e',sz))(y:gU xs off m i=some x):EG T Y t (.vl K st off m) (.int k i)=some (.ptr K st<|off*sz+i.toNat*sz):=by
 have⟨b,d,g⟩:=V7 y;have a:¬ (xs.map c).flatten=[]:=fun h=>by have:=congrArg List.length h;rw[FX p]at this;have A:=(zG.1 g).1;have:=Hx (show 0<xs.length by omega) z;simp at*;omega
 have j:Nat.beq sz sz=true:=by simp[beq_eq]
 simp[EG,q,r,s,j,zC,b,d,ea,a,jg,jm,It]
def z02{q:X U}{j:Nat}{u:U}(h:mD q j 1=some [u]):nth q j=some u:=by
 unfold mD at h;split at h;rename_i a;simp[zA]at h;rw[lW];have:((q.drop j).take 1)[0]? = some u:=by rw[h];rfl
 simpa using this;cases h
def Bg(c:D->X U){st:Nat}{y:D}{o z:He}{a:X U}{b:X (Nat×B)}(F:cP T t=some sz)(q:∀x,(c x).length=sz)(E:bN n l o=some (.ptr K st<|off*sz+i.toNat*sz))(M:bN n l z=some v)(g:xX v=some a)(s:I8 a=true)(A:Nat.beq a.length sz=true)(L:yN a=c y)(I:gt Y.h K=some (.vec (xs.map c).flatten e' sz st))(J:gU xs off m i=some x)(j:ug Y.h K (.vec ((xs.set (off+i.toNat) y).map c).flatten e' sz st)=b):bJ T Y (fr n l) (.store t o z)=some (.J9,⟨b,Y.nx⟩):=by
 subst j;have p:Nat.beq st st=true:=by simp
 have r:=(zG.1 (V7 J).2.2).1;have d:=UF q r y;rw[dX]at d;exact MY rfl rfl (by simp[sW,dY E,dY M,Bn,F,g,A,s,zC,cellsOf,I,p,HD,L,d,PY])
def vR(h:aB xs i=some x):gU xs 0 xs.length i=some x:=by have⟨a,b,d⟩:=QH h;unfold gU;rw[lr ⟨a,b⟩,Ty];exact d
def Kz(c:D->X U){st a h q:Nat}{G H:V Value}(j:T.I1 t=some (.slice e))(r:cP T e=some sz)(g:∀x,(c x).length=sz)(s:pR Y K st=some ((xs.map c).flatten,e',sz))(hm:off+m<=xs.length)(d:o9 m m G H=some (a,h,q)):UP T Y t (.vl K st off m) G H=some (.vl K st (off+a)<|h-a):=by
 have b:Nat.beq sz sz=true:=by simp[beq_eq]
 have p:(off+m)*sz<=(xs.map c).flatten.length:=by rw[FX g];exact tp _ hm
 simp only[UP,j,r,s,b,zC,d,p,It]
def Eu{st:Nat}{q:X U}(a:T.I1 t=some (.slice e))(h:gt Y.h K=some (.vec q e' sz st)):yU T Y t (.vl K st off m)=some (.int .i64 m):=by
 have b:Nat.beq st st=true:=by simp[beq_eq]
 simp[yU,a,live,h,B.st,b,zC]
def gi(c:D->X U){st:Nat}(a:∀x,(c x).length=sz)(h:pR Y K st=some ((xs.map c).flatten,e,sz))(hm:off+m<=xs.length):xP Y sz (.vl K st off m)=some (((xs.drop off).take m).length,(((xs.drop off).take m).map c).flatten):=by
 have b:Nat.beq sz sz=true:=by simp[beq_eq]
 have g:off*sz+m*sz<=(xs.map c).flatten.length:=by rw[FX a,<-dX];exact tp _ hm
 have d:((xs.drop off).take m).length=m:=by simp;omega
 simp only[xP,h,b,zC,mD,g,It,ab a,Z_ a,d]
end
class Rj(a b:Nat):Prop where
 h:a<b
instance{b:Nat}:Rj 0 (b+1):=⟨succ_pos _⟩
instance{a b:Nat}[q:Rj a b]:Rj (a+1) (b+1):=⟨succ_lt_succ q.h⟩
class BF{D:Type}(c:D->X U):Prop where
 h:∀n x,aH n (c x)
instance(k:IntKind):BF (cI k):=⟨fun n x=>bq n k x⟩
instance:BF cS:=⟨z9u⟩
instance{D:Type}(c:D->X U)[q:BF c]:BF (cL c):=⟨fun n x=>Kg n (q.h n) x⟩
class BU(n:Nat)(u:U):Prop where
 h:aW n u
class jQ(n:Nat)(l:X U):Prop where
 h:aH n l
instance(n:Nat):jQ n []:=⟨by simp[aH]⟩
instance(n:Nat)(u:U)(l:X U)[a:BU n u][b:jQ n l]:jQ n (u::l):=⟨by simp[aH];exact⟨a.h,b.h⟩⟩
instance{D:Type}(n:Nat)(c:D->X U)(l:X D)[q:BF c]:jQ n (l.map c).flatten:=⟨QM n (q.h n) l⟩
instance(n:Nat)(b:FK):BU n (.bool b):=⟨by simp[aW]⟩
instance(n:Nat)(k:IntKind)(z:Int):BU n (.int k z):=⟨by simp[aW]⟩
instance(n:Nat)(s:X Yv):BU n (.str s):=⟨by simp[aW]⟩
instance(n:Nat):BU n .J:=⟨by simp[aW]⟩
instance(n k st off:Nat)[q:Rj k n]:BU n (.ptr k st off):=⟨by simp[aW];exact q.h⟩
instance(n k off m c:Nat)[q:Rj k n]:BU n (.sl k off m c):=⟨by simp[aW];exact q.h⟩
instance(n k st off m:Nat)[q:Rj k n]:BU n (.vl k st off m):=⟨by simp[aW];exact q.h⟩
instance(n:Nat)(l:X U)[q:jQ n l]:BU n (.b4 l):=⟨by simp[aW];exact q.h⟩
instance(n:Nat)(l:X U)[q:jQ n l]:BU n (.agg l):=⟨by simp[aW];exact q.h⟩
instance(n:Nat)(l:X U)[q:jQ n l]:BU n (.a7 l):=⟨by simp[aW];exact q.h⟩
instance(n:Nat)(f:Fn)(a b:X U)[p:jQ n a][q:jQ n b]:BU n (.fn f a b):=⟨by simp[aW];exact⟨p.h,q.h⟩⟩
instance{D:Type}(n:Nat)(t:FK)(c:D->X U)(l:X D)[q:BF c]:BU n (.O t<|l.map c):=⟨by simp[aW];exact tF c (q.h n) l⟩
instance(n:Nat)(t:FK):BU n (.O t []):=⟨by simp[aW,lU]⟩
class BS(n:Nat)(l:X (Nat×U)):Prop where
 h:ei n l
instance(n:Nat):BS n []:=⟨by simp[ei]⟩
instance(n i:Nat)(u:U)(l:X (Nat×U))[a:BU n u][b:BS n l]:BS n ((i,u)::l):=⟨by simp[ei];exact⟨a.h,b.h⟩⟩
class BFU{D:Type}(f:D->U):Prop where
 h:∀n x,aW n (f x)
class BB(n:Nat)(b:B):Prop where
 h:cc n b
instance(n:Nat)(l:X U)(e:TypeId)[q:jQ n l]:BB n (.row l e):=⟨by simp[cc];exact q.h⟩
instance(n:Nat)(l:X U)(e:TypeId)(sz st:Nat)[q:jQ n l]:BB n (.vec l e sz st):=⟨by simp[cc];exact q.h⟩
class BH(n:Nat)(h:X (Nat×B)):Prop where
 h:HA n h
instance(n:Nat):BH n []:=⟨by simp[HA]⟩
instance(n k:Nat)(b:B)(h:X (Nat×B))[p:BB n b][q:BH n h]:BH n ((k,b)::h):=⟨by simp[HA];exact⟨p.h,q.h⟩⟩
def P0{n1:Nat}{l l':X (Nat×U)}{a:X (Nat×B)}(p:rL l l')(m:Vx.cut n1 Y.h=a)(b:n0<=n1)(d:n1<=Y.nx)[g:BS n1 l'][j:BH n1 a]:Gh n0 (fr n l) Y (fr n l') ⟨a,n1⟩:=Gh.DE p (by rw[m]) b d g.h j.h
def w9(u:U)(a:tm=[u])[q:BU 0 u]:Gh 0 tm Y [u] ⟨[],0⟩:=by
 subst a;refine Gh.to (n1:=0) [] rfl ?_ (zF _) (qq _) (by simp only[aH];exact⟨q.h,trivial⟩) (by simp[HA]);have:∀h:X (Nat×B),Vx.cut 0 h=[]:=by
  intro h;induction h with
  |nil=>rfl|cons x h d=>have⟨k,b⟩:=x;simp[Vx.cut,d];rfl
 rw[this]
variable{P:Ua}{f:FuncId}
def b7.lG{args:X U}{u:U}(h:b7 P f args ⟨[],0⟩ (fun a _=>a=u/\aW 0 a))[q:jQ 0 args](Y:Sg):b7 P f args Y (fun a Y'=>a=u/\Y'=Y):=b7.uA h q.h Y
def IK{args args':X U}{u:U}(h:qP args args')(b:∀s,b7 P f args' s fun a Y'=>a=u/\Y'=s)(Y:Sg):b7 P f args Y (fun a Y'=>a=u/\Y'=Y):=b7.ghost (Gh.wk h) (zF _) (b Y)
class pv(A:Prop)(B:outParam Prop):Prop where
 h:B->A
section
variable{Q:Exit->X U->Sg->Prop}{K:X U->Sg->Prop}{tm:X U}{Y:Sg}{i j n0:Nat}{E:X U->Sg->Prop}
instance:pv (BP K Q .normal tm Y) (K tm Y):=⟨q1⟩
instance:pv (BP K Q (.exit i) tm Y) (Q (.exit i) tm Y):=⟨q2⟩
instance:pv (BP K Q .ret tm Y) (Q .ret tm Y):=⟨q3⟩
instance:pv (wK i Q .normal tm Y) (Q .normal tm Y):=⟨q4⟩
instance:pv (wK i Q .ret tm Y) (Q .ret tm Y):=⟨q5⟩
instance:pv (wK i Q (.exit i) tm Y) (Q .normal tm Y):=⟨q6⟩
instance:pv (CV n0 E Q .normal tm Y) (∃tm' Y',E tm' Y'/\n0<=Y'.nx/\Gh n0 tm Y tm' Y'):=⟨q8⟩
instance:pv (CV n0 E Q .ret tm Y) (Q .ret tm Y):=⟨q9⟩
end
variable{C:PG}
def sq{Q:Exit->X U->Sg->Prop}{p q:Code}(h:I6 C n0 p tm Y (BP (fun tm Y=>I6 C n0 q tm Y Q) Q)):I6 C n0 (.seq p q) tm Y Q:=I6.seq h
section
variable{P:Ua}{T:Tb}{a r:X Oper}{n:Nat}{l:X (Nat×U)}{Y:Sg}{K:X U->Sg->Prop}{u:U}
def RS.mv{o:Oper}{x:He}(m:cE a (fr n l) o=some true)(j:o.op=.move x)(p:bN n l x=some u){d:Tmp}(g:o.dst=some d)(h:RU C T a r (fr n ((d,u)::l)) Y K)(b:blt d n=true:=by rfl):RU C T a (o::r) (fr n l) Y K:=RS.op m (by rw[j];exact jA p) g b h
def RS.as{o:Oper}{x:He}(m:cE a (fr n l) o=some true)(j:o.op=.assign x)(p:bN n l x=some u){d:Tmp}(g:o.dst=some d)(h:RU C T a r (fr n ((d,u)::l)) Y K)(b:blt d n=true:=by rfl):RU C T a (o::r) (fr n l) Y K:=RS.op m (by rw[j];exact PE p) g b h
end
section
variable{P:Ua}{T:Tb}{a r:X Oper}{o:Oper}{n:Nat}{l:X (Nat×U)}{Y:Sg}{b:X RK}{K:X RK->X U->Sg->Prop}{u:U}
def RD.mv{x:He}(p:cE a (fr n l) o=some true)(m:o.op=.move x)(q:bN n l x=some u){d:Tmp}(h:o.dst=some d)(j:RH P T a r (fr n ((d,u)::l)) Y ((1,⟨fr n l,o,u,false,false,Y,Y⟩)::b) K)(g:blt d n=true:=by rfl):RH P T a (o::r) (fr n l) Y b K:=RD.look p (by rw[m];exact jA q) h g j
end
class t?(a b:Nat):Prop where
 h:¬ a=b
instance{b:Nat}:t? 0 (b+1):=⟨by omega⟩
instance{a b:Nat}[q:t? a b]:t? (a+1) (b+1):=⟨by have:=q.h;omega⟩
instance{Q:Exit->X U->Sg->Prop}{tm:X U}{Y:Sg}{i j:Nat}[h:t? j i]:pv (wK i Q (.exit j) tm Y) (Q (.exit j) tm Y):=⟨q7 h.h⟩
def gq{A B:Prop}[s:pv A B](h:B):A:=s.h h
def G4(T:Tb):X Field->V (X<|Nat×Nat)
 |[]=>some []|f::a=>match cP T f.type,G4 T a with
  |some n,some l=>some ((f.offset,n)::l)|_,_=>none
def z4e{T:Tb}:∀{a:X Field}{d:X (Nat×Nat)},G4 T a=some d->JI T a=true/\∀i,O1 T a i=nth d i
 |[],d,h=>by simp[G4]at h;subst h;exact⟨rfl,fun i=>rfl⟩
 |f::a,d,h=>by
  simp[G4]at h;rcases b:cP T f.type with _|n;simp[b]at h;rcases g:G4 T a with _|l;simp[b,g]at h;simp[b,g,zA]at h;subst h;have⟨g1,g2⟩:=z4e g;refine⟨by simp[JI,b,g1],fun i=>?_⟩;cases i with
  |zero=>simp[O1,nth,b]|succ i=>exact g2 i
structure BdT(T:Tb)(t:TypeId)(zu:X U)(pl:X (Nat×Nat)):Prop where
 bd:∀{qs:X (Nat×U)}{cs:X U},tC (nth pl) zu qs=some cs->I8 cs=true->Md T t qs=some (.agg cs)
variable{t:TypeId}{b:Nat}{z:Value}{zu:X U}
def xH{T:Tb}{d:Jg Field}{a:Nat}{g:X (Nat×Nat)}(h:T.I1 t=some (.struct d))(H:T.inf t=some (a,b,z))(p:rN z.cells.toList=some zu)(m:G4 T d.toList=some g):BdT T t zu g:=⟨fun{qs cs} j hk=>by
 have⟨g1,g2⟩:=z4e m;have:O1 T d.toList=nth g:=funext g2;simp[Md,H,p,h,g1,zC,this,j,hk]⟩
section
variable{T:Tb}{Y Y':Sg}{n:Nat}{l:X (Nat×U)}{u v w:U}{g:Jg (Nat×He)}{qs:X (Nat×U)}{cs:X U}
def gv{a:X (Nat×Nat)}(h:BdT T t zu a)(d:E9 n l g.toList=some qs)(j:tC (nth a) zu qs=some cs)(m:I8 cs=true):bJ T Y (fr n l) (.build t g)=some (.agg cs,Y):=JM d (h.bd j m)
def vQ{k:Nat}(m:T.I1 t=some (.slice e))(H:T.inf e=some (sz,b,z))(h:E9 n l g.toList=some qs)(a:ble (k*sz) 16777216=true)(d:ble k 16777216=true)(j:Nat.beq z.cells.toList.length sz=true)(r:rN z.cells.toList=some zu)(p:tC (fun i=>some (i*sz,sz)) (zE zu k) qs=some cs)(q:I8 cs=true):bJ T Y (fr n l) (.buildSlice t k g)=some (.sl Y.nx 0 k k,bE Y<|.row cs e):=Zm h (by simp only[Vn,m,H,a,d,j,zC,r,p,q])
def uY.bs{k:Nat}{a:X (X U)}(r:T.I1 t=some (.slice e))(H:T.inf e=some (sz,b,z))(h:E9 n l g.toList=some qs)(d:ble (k*sz) 16777216=true)(j:ble k 16777216=true)(p:Nat.beq z.cells.toList.length sz=true)(B:rN z.cells.toList=some zu)(s:tC (fun i=>some (i*sz,sz)) (zE zu k) qs=some cs)(y:I8 cs=true)(A:ble (k*sz) cs.length=true)(E:bR sz k cs=a)[q:jQ 0 cs]:uY P T (fr n l) (.buildSlice t k g) (.O false a):=
 .inr ⟨k,sz,cs,e,fun Y=>vQ r H h d j p B s y,zY A,fun m _=>aH.le (qq _) _ q.h,by rw[E]⟩
variable{a:Int}{g:IntKind}
def Fb(k:IntKind){b:Int}(h:¬ b<0):lI .shr k a g b=some (.int k<|a.fdiv<|2^(min b.toNat k.bits)):=by simp[lI,h]
def Fc(k:IntKind){b:Int}(h:¬ b<0):lI .shl k a g b=some (.int k<|k.wrap<|a*2^(min b.toNat k.bits)):=by simp[lI,h]
def Lw(c:D->X U)(z:D){x y:He}{k:IntKind}{d:Nat}{h:Value}(s:bN n l x=some (.int k a))(A:bN n l y=some (.int g a))(p:T.I1 t=some (.slice e))(H:T.inf e=some (sz,d,h))(B:rN h.cells.toList=some zu)(q:I8 zu=true)(j:yN zu=c z)(r:Nat.beq h.cells.toList.length sz=true)(E:0<=a/\d*a.toNat<=281474976710656/\a<=281474976710656):bJ T Y (fr n l) (.makeSlice t x y)=some (.sl Y.nx 0 a.toNat a.toNat,bE Y<|.row ((replicate a.toNat z).map c).flatten e):=by
 have m:zE (c z) a.toNat=((replicate a.toNat z).map c).flatten:=by simp[zE]
 refine Zl s A ?_;simp only[Rq,p,H,B,q,r,zC,E.1,E.2.1,E.2.2,pn,jm,It,j,m]
variable{m:Nat}
def rP{q:Nat}{k:IntKind}(j:T.I1 t=some (.slice e))(p:cP T e=some sz)(r:live Y K 0=true)(s:gU xs 0 m i=some x):EG T Y t (.sl K 0 m q) (.int k i)=some (.ptr K 0<|0*sz+i.toNat*sz):=by have⟨d,h,_⟩:=V7 s;simp[EG,j,p,r,zC,d,h,jm,It,my]
def BV(c:D->X U){q:TypeId}{d:TypeDesc}{o:He}(f:D->U)(y:T.I1 t=some d)(r:sG d=false)(j:∀x,c x=[f x])(A:bN n l o=some (.ptr K 0<|0*1+i.toNat*1))(B:gt Y.h K=some (.row (xs.map c).flatten q))(E:gU xs 0 m i=some x):bJ T Y (fr n l) (.load t o)=some (f x,Y):=by refine TJ rfl ?_;have s:Nat.beq 0 0=true:=rfl;have p:=qv6 (c:=c) (sz:=1) (fun x=>by rw[j];rfl) (V7 E).2.2;rw[j,dX]at p;simp only[tB,dY A,cellsOf,B,s,zC,HJ,y,r,zD,z02 p]
def PX(c:D->X U){j:TypeId}{y:D}{o z:He}{p:X (Nat×B)}(L:cP T t=some sz)(q:∀x,(c x).length=sz)(J:bN n l o=some (.ptr K 0<|0*sz+i.toNat*sz))(R:bN n l z=some v)(s:xX v=some cs)(I:I8 cs=true)(O:cs=c y)(M:gt Y.h K=some (.row (xs.map c).flatten j))(N:gU xs 0 m i=some x)(A:ug Y.h K (.row ((xs.set i.toNat y).map c).flatten j)=p):bJ T Y (fr n l) (.store t o z)=some (.J9,⟨p,Y.nx⟩):=by
 subst O;subst A;have E:Nat.beq 0 0=true:=rfl;have d:Nat.beq (c y).length sz=true:=by simp[q]
 have F:=(zG.1 (V7 N).2.2).1;have r:=UF q F y;rw[dX,Ty]at r;exact MY rfl rfl (by simp only[sW,dY J,dY R,Bn,L,s,d,I,zC,cellsOf,M,E,HD,r,PY])
def z2y{q:Nat}(d:T.I1 t=some (.slice e))(h:live Y K 0=true):yU T Y t (.sl K off m q)=some (.int .i64 m):=by simp[yU,d,h,zC]
def Lq{c:D->X U}(d:∀x,(c x).length=sz)(h:m=xs.length)(K:Nat)(e:TypeId):fz K (.row (xs.map c).flatten e) sz (.sl K 0 m m)=.O false (xs.map c):=by
 subst h;have p:0+xs.length*sz<=(xs.map c).flatten.length:=by rw[FX d];omega
 have j:Nat.beq K K=true:=by simp
 simp only[fz,j,zC,p,It,Za,qmu d]
end
def b7.AB(c:D->X U){d:X D}{g:X U}[v:BF c][p:jQ 0 g]{k:Nat}
  (h:b7 P f g ⟨[],0⟩ (fun u Y'=>∃a,u=.vl k a 0 d.length/\Y'=⟨[(k,.vec (d.map c).flatten e sz a)],k+1⟩)) (Y:Sg) (K:Nat) (r:Y.nx+k=K):
  b7 P f g Y (fun u Y'=>∃a,u=.vl K a 0 d.length/\Y'=⟨(K,.vec (d.map c).flatten e sz a)::Y.h,K+1⟩):=by
 subst r;have q:∀l:X D,aH 0 (l.map c).flatten:=fun l=>QM 0 (v.h 0) l;have m:=b7.frame [] h Y aZ aZ p.h (by intro k b s;simp[gt]at s);rw[O2 _ _ p.h]at m;apply b7.post m;rintro u A ⟨E,B,⟨a,rfl,rfl⟩,_,rfl,rfl⟩;refine⟨.vl (Y.nx+k) a 0 d.length,⟨(Y.nx+k,.vec (d.map c).flatten e sz a)::Y.h,Y.nx+k+1⟩,by simp;omega,?_,a,rfl,rfl⟩;have y:kq [] Y ⟨[(k,.vec (d.map c).flatten e sz a)],k+1⟩=⟨(Y.nx+k,.vec (d.map c).flatten e sz a)::JG [] Y.h,Y.nx+k+1⟩:=by simp[kq,BL,nm,rB,O2 _ _<|q d];omega
 rw[y];have:=Gh.same (n0:=Y.nx) (tm:=[rU (nm [] Y.nx)<|.vl k a 0 d.length]) (Y:=⟨(Y.nx+k,.vec (d.map c).flatten e sz a)::JG [] Y.h,Y.nx+k+1⟩) ((Y.nx+k,.vec (d.map c).flatten e sz a)::Y.h) (fun j=>by rw[aR,aR,Vf];by_cases w:Y.nx+k=j<;>simp[w]);exact this
def Gh.pW{q q':X U}(d:gt Y.h K=some (.row q e))(g:I8 q'=true)(h:qP q q'):Gh n0 tm Y tm ⟨ug Y.h K<|.row q' e,Y.nx⟩:=Gh.row d g fun x j _ _ a=>⟨h.rel a.1,by rw[h.len];exact a.2⟩
end Go.Vx
namespace Go.Vx
open Go Go.Rx
structure MapL(K v08:Type) where
 es:X (K×v08×Nat)
 cl:Nat
section
variable{K c:Type}(d:K->U)(f:c->U)
def mE(e:K×c×Nat):ME:=⟨d e.1,f e.2.1,e.2.2⟩
structure uj(T:Tb)(kt:TypeId)(eq:K->K->FK)(kV:K->Value):Prop where
 v:∀k,cf (d k)=some (kV k)
 cmp:∀a b,eqv T 50 kt (kV a) (kV b)=some (eq a b)
 key:∀k,qf T 50 kt (kV k)=true
 pl:∀k,plain (kV k)=true
 same:∀a b,eq a b=true->veq 50 (kV b) (kV a)=true
variable{d f}{T:Tb}{a:TypeId}{eq:K->K->FK}{b:K->Value}(e:uj d T a eq b)
include e
variable{Y:Sg}{n:Nat}{l:X (Nat×U)}{r:Nat}{m:MapL K c}{t b:TypeId}(e:T.I1 t=some (.map a b))(g:gt Y.h r=some (.map (m.es.map (mE d f)) m.cl))
include e g
end
def z3t{T:Tb}{Y:Sg}{n:Nat}{l:X (Nat×U)}{t:TypeId}:bJ T Y (fr n l) (.makeMap t none)=some (.map Y.nx,bE Y<|.map [] 0):=MY rfl rfl rfl
def J5:X Nat->Nat->Nat
 |[],_=>0|a::_,0=>a
 |_::l,i+1=>J5 l i
def x_:X Nat->Nat->FK
 |[],_=>true|a::l,nx=>cond (TK l a) false (cond (blt a nx) (x_ l nx) false)
def z3r:∀{l:X Nat}{nx:Nat},x_ l nx=true->l.Nodup/\∀k∈l,k<nx
 |[],nx,_=>⟨Bc,fun k h=>by cases h⟩|a::l,nx,h=>by
  simp only[x_]at h;cases b:TK l a with
  |true=>rw[b]at h;cases h|false=>rw[b,zD]at h;rcases c:blt a nx with _|_;rw[c]at h;cases h;rw[c,zC]at h;have⟨q1,q2⟩:=z3r h;refine⟨nodup_cons.2 ⟨fun hm=>?_,q1⟩,fun k d=>?_⟩;rw[(B' l a).2 hm]at b;cases b;obtain rfl |d:=zI.1 d;exact zY c;exact q2 k d
def be(N:Nat):X (Nat×B)->FK
 |[]=>true|(k,_)::h=>cond (blt k N) (be N h) false
def MT(a:X Nat)(nx:Nat)(h:X (Nat×B)):X (Nat×B)->Prop
 |[]=>True|(k,b)::r=>gt h (nm a nx k)=some (rB (nm a nx) b)/\MT a nx h r
def zbb{m:X Nat}{nx N:Nat}{h:X (Nat×B)}:∀{d:X (Nat×B)},MT m nx h d->be N d=true->HA N d->∀k b,gt d k=some b->k<N/\cc N b/\gt h (nm m nx k)=some (rB (nm m nx) b)
 |[],_,_,_,k,b,a=>by cases a
 |(j,c)::d,l,f,i,k,b,a=>by simp[MT]at l;simp only[be]at f;rcases g:blt j N with _|_;rw[g]at f;cases f;rw[g,zC]at f;simp[HA]at i;simp[gt,beq_eq]at a;by_cases e:j=k;subst e;simp[yC,zC,zA]at a;subst a;exact⟨zY g,i.1,l.1⟩;simp[e,yB,zD]at a;exact zbb l.2 f i.2 k b a
def Lu(Z:Nat->Nat)(l:X U)[q:jQ 0 l]:fP Z l=l:=O2 Z l q.h
def UZ{D:Type}(Z:Nat->Nat)(c:D->X U)(l:X D)[q:BF c]:vJ Z (l.map c)=l.map c:=qr2 Z _ (tF c (q.h 0) l)
def gm{K a:Type}(Z:Nat->Nat)(b:K->U)(c:a->U)(d:X (K×a×Nat))[p:BFU b][q:BFU c]:(d.map<|mE b c).map (rM Z)=d.map (mE b c):=by rw[eF];refine X2 fun e _=>?_;simp[Function.comp,mE,rM,qw0 Z _<|p.h 0 _,qw0 Z _<|q.h 0 _]
def N0(a:X Nat)(nx N:Nat)(h:X (Nat×B)):X (Nat×B)->X (Nat×B)
 |[]=>h|(k,b)::r=>cond (blt k N) (ug (N0 a nx N h r) (nm a nx k)<|rB (nm a nx) b) ((nm a nx k,rB (nm a nx) b)::N0 a nx N h r)
def TF(N:Nat)(h:X (Nat×B)):FK:=(List.range N).all fun k=>(gt h k).isSome
def z2m{a:X Nat}{nx N:Nat}{h:X (Nat×B)}(n:a.length=N)(H:∀i j,nm a nx i=nm a nx j->i=j)(g:∀k,k<N->(gt h<|nm a nx k).isSome=true)(o:∀k,N<=k->gt h (nm a nx k)=none):∀(r:X (Nat×B))(k:Nat),gt (N0 a nx N h r) k=match gt (BL a nx r) k with
  |some b=>some b|none=>gt h k
 |[],k=>by simp[N0,BL,gt]
 |(j,b)::r,k=>by
  have f:=z2m n H g o r;simp[N0,BL,aR];cases m:blt j N with
  |true=>
   have d:j<N:=zY m;simp[zC,bV];by_cases e:nm a nx j=k;subst e;have p:=g j d;have:(gt (N0 a nx N h r)<|nm a nx j).isSome=true:=by rw[f];split<;>simp_all
   rcases l:gt (N0 a nx N h r) (nm a nx j)with _|c;rw[l]at this;cases this;simp;simp[e,f]
  |false=>simp[zD,aR];by_cases e:nm a nx j=k;simp[e];simp[e,f]
def b7.st{P:Ua}{f:FuncId}{d args:X U}{p:X (Nat×B)}{N A:Nat}{C z:(Nat->Nat)->U}{g:(Nat->Nat)->X (Nat×B)}{y:(Nat->Nat)->Sg}(a:X Nat){Y:Sg}
  (h:b7 P f d ⟨p,N⟩ (fun u Y'=>∃t:Nat->Nat,u=C t/\Y'=⟨g t,A⟩)) [ha:jQ N d] [hb:BH N p]
  (hn:x_ a Y.nx=true:=by rfl) (W:a.length=N:=by rfl) (o:be N p=true:=by rfl) (mX:TF N p=true:=by rfl) (q:∀t,TF N (g t)=true:=by intro t;rfl)
  (hh:MT a Y.nx Y.h p:=by simp only[MT,gt,Nat.beq,zC,zD,nm,rB,Lu,fP,rU,UZ,gm,cO,dG]<;>first |rfl |exact⟨rfl,trivial⟩|exact⟨rfl,rfl,trivial⟩|exact⟨rfl,rfl⟩)
  (Q:fP (nm a Y.nx) d=args:=by(simp only[nm,Lu,fP,rU,UZ])<;>rfl)
  (Z:∀t,rU (nm a Y.nx) (C t)=z t:=by(intro t;simp only[nm,Lu,fP,rU,UZ])<;>rfl)
  (K:∀t,(⟨N0 a Y.nx N Y.h<|g t,Y.nx+(A-N)⟩:Sg)=y t:=by(intro t;simp only[N0,blt,ble,mi,eT,reduceAdd,reduceSub,ug,Nat.beq,zC,zD,nm,rB,Lu,fP,rU,UZ,gm])<;>rfl):
  b7 P f args Y (fun u Y'=>∃t:Nat->Nat,u=z t/\Y'=y t):=by
 subst W;have⟨g1,g2⟩:=z3r hn;have M:=zbb hh o hb.h;have H:∀i j,nm a Y.nx i=nm a Y.nx j->i=j:=fun i j h=>zap g1 g2 h;have J:∀{h:X (Nat×B)},TF a.length h=true->∀k,k<a.length->(gt h k).isSome=true:=fun{h} r k o=>by unfold TF at r;rw[rj]at r;exact r k (mem_range.2 o)
 have O:∀k,k<a.length->(gt Y.h<|nm a Y.nx k).isSome=true:=fun k o=>by have:=J mX k o;rcases l:gt p k with _|b;rw[l]at this;cases this;rw[(M k b l).2.2];rfl
 intro F x vs m w n D s S r R wY;have i7:∀k,a.length<=k->gt Y.h (nm a Y.nx k)=none:=fun k o=>by rcases l:gt Y.h (nm a Y.nx k)with _|b;rfl;have T:=(s.ok (nm a Y.nx k) b (by rw[D];exact l)).1;rw[D,NN a Y.nx k o]at T;omega
 have I:=b7.frame a h Y g1 g2 ha.h M;rw[Q]at I;have V:b7 P f args Y (fun u Y'=>∃t:Nat->Nat,u=z t/\Y'=y t):=b7.post I ?_;exact V F x vs m w n D s S r R wY;rintro u Y' ⟨u0,pO,⟨t,rfl,rfl⟩,oP,rfl,rfl⟩;refine⟨z t,y t,?_,?_,t,rfl,rfl⟩;rw[<-K t];exact il _ _;rw[<-K t,<-Z t];refine Gh.same (n0:=Y.nx) (tm:=[rU (nm a Y.nx)<|C t]) (Y:=kq a Y ⟨g t,A⟩) (N0 a Y.nx a.length Y.h<|g t) (fun k=>?_);show _=gt (BL a Y.nx (g t)++JG a Y.h) k;rw[z2m rfl H O i7,qn6,Vf];cases l:gt (BL a Y.nx<|g t) k with
 |some b=>rfl|none=>by_cases v:k∈a;exfalso;have⟨j,L,e⟩:=Kh v;have⟨_,G⟩:=JD a Y.nx j L;rw[e]at G;rw[<-G,NH H]at l;have:=J (q t) j L;rcases E:gt (g t) j with _|c;rw[E]at this;cases this;rw[E]at l;cases l;rw[hF v]
end Go.Vx
