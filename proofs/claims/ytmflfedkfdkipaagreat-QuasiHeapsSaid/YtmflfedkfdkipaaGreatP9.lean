import Derived.DataReads
import Derived.ChangeArms
import Derived.OpenShut
import Derived.ChangeSame
import Derived.Test.YtmflfedkfdkipaaGreatP8
set_option linter.all false
open List Go.IntKind
open Nat hiding beq_eq
namespace Go.Vx
open Go Go.Rx
def qwb{c j:Type}{f:c->A j}:∀{l:X c}{r:X j},l.mapM f=some r->r.length=l.length/\∀(i:Nat)(a:c),l[i]? = some a->∃b,r[i]? = some b/\f a=some b
 |[],r,h=>by simp at h;subst h;simp
 |a::l,r,h=>by
  simp only[Kc,bind,Option.bind]at h;rcases e:f a with _|b;simp[e]at h;simp only[e]at h;rcases g:l.mapM f with _|r';simp[g]at h;simp[g,pure]at h;subst h;obtain⟨g1,g2⟩:=qwb g;refine⟨by simp[g1],fun i x d=>?_⟩;cases i with
  |zero=>simp at d;subst d;exact⟨b,rfl,e⟩|succ i=>simp at d;simpa using g2 i x d
def sy(W:Jb):∀(l:X U)(b:X I),o3 W l b↔∀(i:Nat)(u:U),l[i]? = some u->∃v,b[i]? = some v/\dc W u v
 |[],b=>by simp[o3]
 |u::e,[]=>by simp only[o3,false_iff];intro h;obtain⟨v,f,_⟩:=h 0 u rfl;simp at f
 |u::e,v::b=>by
  simp only[o3,sy W e b];constructor;rintro⟨c,d⟩ i w a;cases i with
  |zero=>simp at a;subst a;exact⟨v,rfl,c⟩|succ i=>simp at a;simpa using d i w a
  intro h;refine⟨?_,fun i w a=>by simpa using h (i+1) w (by simpa using a)⟩;obtain⟨g,c,d⟩:=h 0 u rfl;simp at c;subst c;exact d
def z3a{W:Jb}{e:Nat}:∀{l:X (X U)}{a:X I},(∀(i:Nat)(c:X U),l[i]? = some c->c.length=e/\I5 c=true/\o3 W c (a.drop<|i*e))->OO W e l a
 |[],a,h=>by simp[OO]
 |d::l,a,h=>by simp only[OO];have b:=h 0 d rfl;refine⟨b.1,b.2.1,by simpa using b.2.2,z3a fun i c f=>?_⟩;have:=h (i+1) c (by simpa using f);rw[mh];rw[eF,zj]at this;exact this
def Se(P:Ib):Nat->X Field->Nat->Rl
 |o,[],n=>Nat.beq o n|o,f::a,n=>cond (Nat.beq f.offset o) (Se P (o+P.cellsOf f.type) a n) false
def ZN(P:Ib)(a:X TypeId)(t:TypeId):Rl:=match P.underlying t with
 |some .bool=>true|some (.int _)=>true
 |some .string=>true|some (.slice e)=>cond (a.any<|Nat.beq e) (blt 0<|P.cellsOf e) false
 |some (.struct b)=>cond (Se P 0 b.toList<|P.cellsOf t) (b.toList.all fun f=>a.any<|Nat.beq f.type) false|some (.array n e)=>cond (a.any<|Nat.beq e) (Nat.beq (P.cellsOf t)<|n*P.cellsOf e) false
 |_=>false
def iS(P:Ib)(a:X TypeId):Rl:=a.all (ZN P a)
def H!{a:X TypeId}{e:TypeId}(h:a.any (Nat.beq e)=true):e∈a:=by
 obtain⟨x,b,c⟩:=any_eq_true.1 h;have:e=x:=by simpa[beq_eq]using c
 rw[this];exact b
def qo0{W:Jb}{P:Ib}{fuel:Nat}{cs:X I}:∀(b:X Field)(o n:Nat),Se P o b n=true->n<=cs.length->
  (∀f∈b,∃a,o3 W a ((cs.drop f.offset).take (P.cellsOf f.type))/\a.length=((cs.drop f.offset).take (P.cellsOf f.type)).length/\I5 a=true/\L1 P fuel f.type a)->
  ∃a,o3 W a (cs.drop o)/\a.length=n-o/\I5 a=true/\o<=n/\∀f∈b,o<=f.offset/\L1 P fuel f.type ((a.drop<|f.offset-o).take (P.cellsOf f.type))
 |[],o,n,e,m,h=>by
  have:o=n:=by simpa[Se,beq_eq]using e
  subst this;exact⟨[],by simp[o3],by simp,rfl,zF _,by simp⟩
 |f::b,o,n,e,m,h=>by
  simp only[Se]at e;obtain⟨t,w⟩:=NI e;have p:f.offset=o:=by simpa[beq_eq]using t
  obtain⟨a,g1,g2,r,A,s⟩:=qo0 b _ n w m fun x c=>h x (by simp[c]);obtain⟨l,k,q,y,z⟩:=h f ca;rw[p]at k q;have j:l.length=P.cellsOf f.type:=by rw[q];simp;omega
  refine⟨l++a,?_,by simp[j,g2];omega,NG y r,by omega,fun x c=>?_⟩;rw[sy]at k g1 ⊢;intro i u g;rw[KV]at g;split at g;rename_i d;obtain⟨v,q1,q2⟩:=k i u g;rw[l8]at q1;rw[j]at d;simp only[d,It]at q1;exact⟨v,q1,q2⟩;rename_i d;obtain⟨v,q1,q2⟩:=g1 _ u g;rw[na]at q1 ⊢;exact⟨v,by rw[j]at q1 d;rw[show o+i=o+P.cellsOf f.type+(i-P.cellsOf f.type) by omega];exact q1,q2⟩;obtain rfl |c:=zI.1 c;refine⟨by omega,?_⟩;rw[p,mr,Xl,<-j,Q' rfl];exact z;obtain⟨q1,q2⟩:=s x c;refine⟨by omega,?_⟩;rw[show x.offset-o=l.length+(x.offset-(o+P.cellsOf f.type)) by omega,qcy,Gt ag,eY,nv];exact q2
def qr1{W:Jb}{P:Ib}{fuel:Nat}{cs:X I}{e:TypeId}{sz:Nat}:∀(n:Nat),n*sz<=cs.length->
  (∀i,i<n->∃a,o3 W a ((cs.drop<|i*sz).take sz)/\a.length=((cs.drop<|i*sz).take sz).length/\I5 a=true/\L1 P fuel e a)->
  ∃a,o3 W a cs/\a.length=n*sz/\I5 a=true/\∀i,i<n->L1 P fuel e ((a.drop<|i*sz).take sz)
 |0,d,h=>⟨[],by simp[o3],by simp,rfl,by simp⟩|n+1,d,h=>by
  rw[eF]at d;obtain⟨a,g1,g2,l,m⟩:=qr1 n ag fun i o=>h i ag;obtain⟨j,f,p,q,r⟩:=h n ag;have g:j.length=sz:=by rw[p];simp;omega
  refine⟨a++j,?_,by rw[zU,g2,g,eF],NG l q,fun i o=>?_⟩;rw[sy]at f g1 ⊢;intro i u b;rw[KV]at b;split at b;exact g1 i u b;rename_i k;obtain⟨v,q1,q2⟩:=f _ u b;rw[l8]at q1;split at q1;rw[na]at q1;exact⟨v,by rw[g2]at q1 k;rw[show i=n*sz+(i-n*sz) by omega];exact q1,q2⟩;cases q1;by_cases c:i<n;have:=m i c;have s:i*sz+sz<=a.length:=by rw[g2,<-eF];exact ri _ c
  rw[zi ag,ya (by simp;omega)];exact this;have:i=n:=by omega
  subst this;rw[<-g2,drop_left' rfl,<-g,xe];exact r
section
variable{H:Type}{enc:TypeId×I->H}{P:Ib}{W:Jb}{g:X TypeId}(w:iS P g=true)
include w
omit w in
def g'{a:Addr}{n:Nat}{i:X I}(q:0<n)(h:W.cells? 0 a n=some i):∃c e fr,a.spot=none/\W.heap[a.block]? = some (.cells c e fr)/\i.length=n/\∀(k:Nat)(v:I),i[k]? = some v->c.toList[a.off+k]? = some v:=by
 unfold World.cells? at h;simp only[qq,It]at h;obtain⟨g1,g2⟩:=qwb h;obtain⟨v0,r,f⟩:=g2 0 0 (by simp[q]);have l:a.spot=none:=by have:=World.cell?_spot f;simpa[Addr.add]using this
 have d:∀k,a.add k=⟨a.block,a.off+k,none⟩:=fun k=>by obtain⟨b,o,s⟩:=a;simp only at l;subst l;exact H5 b o k
 rw[d]at f;unfold World.cell? at f;rcases j:W.heap[a.block]? with _|o;simp[j]at f;cases o with
 |cells c e fr=>
  refine⟨c,e,fr,l,rfl,by simpa using g1,fun k v m=>?_⟩;have p:k<n:=by have:=(zG.1 m).1;rw[g1]at this;simpa using this
  obtain⟨t,q1,q2⟩:=g2 k k (by simp[p]);rw[m]at q1;cases q1;rw[d]at q2;simp only[World.cell?,j]at q2;simpa using q2
 |_=>simp[j]at f
def sw:∀(fuel:Nat)(t:TypeId),t∈g->∀(cs:X I)(x:DataW H×X MemPlace),DataW.trod enc P W 0 (fun _=>true) true fuel t cs=some x->∃j,o3 W j cs/\j.length=cs.length/\I5 j=true/\L1 P fuel t j
 |0,t,ht,cs,x,h=>by simp[DataW.trod]at h
 |fuel+1,t,ht,cs,x,h=>by
  have z:=all_eq_true.1 w t ht;unfold ZN at z;rcases q:P.underlying t with _|d;simp[q]at z;cases d with
  |bool=>obtain⟨b,rfl,_⟩:=DataW.trod_bool q h;exact⟨[.bool b],by simp[o3,dc],rfl,rfl,by simp[L1,q]⟩
  |int k=>obtain⟨n,rfl,_,oa⟩:=DataW.trod_int q h;exact⟨[.int k n],by simp[o3,dc],rfl,rfl,by simp[L1,q,oa]⟩
  |string=>obtain⟨s,rfl,_,L⟩:=DataW.trod_string q h;refine⟨[.str s.data.toList],by simp[o3,dc],rfl,rfl,?_⟩;simp only[L1,q];exact⟨_,rfl,by simpa using L⟩
  |slice e=>
   simp only[q]at z;obtain⟨D,jY⟩:=NI z;have he:=H! D;have L:0<P.cellsOf e:=Bk jY;obtain⟨rfl,_⟩|⟨a,len,cap,T,A,n,rh,rfl,_,_,ov,hcm,aP,O,uD,_⟩:=DataW.trod_slice q h;refine⟨[.O false []],by simp[o3,dc],rfl,rfl,?_⟩;simp only[L1,q];exact⟨[],rfl,by simp,by simp⟩;have hn:n=fuel:=by omega
   subst hn;have gD:cap<cP:=by unfold cP;unfold maxLen at hcm;omega
   have M:∀i,i<len->∃j,j.length=P.cellsOf e/\I5 j=true/\L1 P n e j/\∃c F fr,a.spot=none/\W.heap[a.block]? = some (.cells c F fr)/\o3 W j (c.toList.drop<|a.off+i*P.cellsOf e):=by
    intro i r;have y:=O i r;have h2:T[i]? = some T[i]:=by simp[aP,r]
    rw[h2]at y;rcases hc:W.cells? 0 (a.add<|i*P.cellsOf e) (P.cellsOf e)with _|ci;simp[hc]at y;simp only[hc,qct]at y;obtain⟨j,r1,r2,r3,r4⟩:=sw n e he ci _ y;obtain⟨c,F,fr,k1,k2,k3,k4⟩:=g' L hc;have V:a.spot=none:=by
     have C:=O 0 ag;have h4:T[0]? = some (T[0]' ag):=by simp[aP,show 0<len by omega]
     rw[h4]at C;rcases K:W.cells? 0 (a.add<|0*P.cellsOf e) (P.cellsOf e)with _|c0;rw[K]at C;cases C;obtain⟨_,_,_,q1,_⟩:=g' L K;simpa[Addr.add]using q1
    have N:a.add (i*P.cellsOf e)=⟨a.block,a.off+i*P.cellsOf e,none⟩:=by obtain⟨b,o,sp⟩:=a;simp only at V;subst V;exact H5 b o _
    rw[N]at k2 k4;refine⟨j,by rw[r2,k3],r3,r4,c,F,fr,V,k2,?_⟩;rw[sy]at r1 ⊢;intro k u hu;obtain⟨v,q1,q2⟩:=r1 k u hu;exact⟨v,by rw[na];exact k4 k v q1,q2⟩
   have all:∀m,m<=len->∃l:X (X U),l.length=m/\∀(i:Nat)(j:X U),l[i]? = some j->j.length=P.cellsOf e/\I5 j=true/\L1 P n e j/\∃c F fr,a.spot=none/\W.heap[a.block]? = some (.cells c F fr)/\o3 W j (c.toList.drop<|a.off+i*P.cellsOf e):=by
    intro m;induction m with
    |zero=>intro _;exact⟨[],rfl,by simp⟩|succ m ih=>
     intro hm;obtain⟨l,G,R⟩:=ih ag;obtain⟨j,E⟩:=M m ag;refine⟨l++[j],by simp[G],fun i vs B=>?_⟩;rw[KV]at B;split at B;exact R i vs B;rename_i KY;have:i=m:=by have:=(zG.1 B).1;simp at this;omega
     subst this;rw[G,mr]at B;simp at B;subst B;exact E
   obtain⟨l,G,R⟩:=all len<|zF _;refine⟨[.O false l],?_,rfl,rfl,?_⟩;simp only[o3,X1,dc,di];by_cases HL:l=[];subst HL;simp at G;subst G;obtain⟨b,o,sp⟩:=a;obtain _|p:=sp;exact .inr ⟨b,o,cap,rfl,gD,qq _,.inl rfl⟩;obtain h0 |hp:=Fz cap;subst h0;exact .inl ⟨rfl,.inr ⟨b,o,p,rfl⟩⟩;exfalso;obtain⟨s1,s2⟩:=uD rfl;have C:=s2 0 ag;have h4:A[0]? = some (A[0]' ag):=by simp[s1,hp]
   rw[h4]at C;rcases K:W.cells? 0 (Addr.add ⟨b,o,some p⟩<|(0+0)*P.cellsOf e) (P.cellsOf e)with _|c0;rw[K]at C;cases C;obtain⟨_,_,_,q1,_⟩:=g' L K;simp[Addr.add]at q1;obtain⟨Jy,Q⟩:∃Jy,l[0]? = some Jy:=by cases l with
    |nil=>exact absurd rfl HL|cons a l=>exact⟨a,rfl⟩
   obtain⟨_,_,_,c,F,fr,Pb,hw,_⟩:=R 0 Jy Q;refine .inr ⟨a.block,a.off,cap,by obtain⟨b,o,sp⟩:=a;simp only at Pb;subst Pb;rw[G],gD,by omega,.inr ⟨c,F,fr,P.cellsOf e,hw,z3a fun i j r=>?_⟩⟩;obtain⟨q1,q2,_,c',ty',fr',_,nG,q3⟩:=R i j r;rw[hw]at nG;cases nG;exact⟨q1,q2,by rw[mh];exact q3⟩;simp only[L1,q];refine⟨l,rfl,by omega,fun j E=>?_⟩;obtain⟨i,r⟩:=mem_iff_getElem?.1 E;exact(R i j r).2.2.1
  |struct fs=>
   simp only[q]at z;obtain⟨rz,cD⟩:=NI z;obtain⟨J,m,rh,_,hl,Y,hf⟩:=DataW.trod_struct q h;have hm:m=fuel:=by omega
   subst hm;obtain⟨j,g1,g2,Z,_,g5⟩:=qo0 (W:=W) (P:=P) (fuel:=m) (cs:=cs) fs.toList 0 (P.cellsOf t) rz ag fun f S=>by
    obtain⟨i,r⟩:=mem_iff_getElem?.1 S;have y:=hf i f (by simpa using r);have h2:i<J.length:=by rw[Y];have:=(zG.1 r).1;simpa using this
    rw[show J[i]? = some J[i] by simp[h2]]at y;exact sw m f.type (H!<|all_eq_true.1 cD f S) _ _ y
   refine⟨j,by simpa using g1,by omega,Z,?_⟩;simp only[L1,q];exact⟨by omega,fun f S=>by simpa using(g5 f S).2⟩
  |array n e=>
   simp only[q]at z;obtain⟨D,jD⟩:=NI z;have he:=H! D;obtain⟨J,m,rh,_,hl,Y,hf⟩:=DataW.trod_array q h;have hm:m=fuel:=by omega
   subst hm;have a_:P.cellsOf t=n*P.cellsOf e:=by simpa[beq_eq]using jD
   obtain⟨j,g1,g2,Z,g4⟩:=qr1 (W:=W) (P:=P) (fuel:=m) (cs:=cs) (e:=e) (sz:=P.cellsOf e) n ag fun i r=>by have y:=hf i r;rw[show J[i]? = some J[i] by simp[Y,r]]at y;exact sw m e he _ _ y
   refine⟨j,g1,by omega,Z,?_⟩;simp only[L1,q];exact⟨by omega,g4⟩
  |_=>simp[q]at z
def hY(P:Ib)(t:TypeId)(u:U):Prop:=∃a b,L1 P a t b/\match P.underlying t with
 |some (.struct _)=>u=.agg b|some (.array _ _)=>u=.agg b
 |_=>b=[u]
def jE(P:Ib):X TypeId->X U->Prop
 |[],a=>a=[]|t::c,a=>∃u b,a=u::b/\hY P t u/\jE P c b
def z9e{t:TypeId}(q:t∈g){v:I}{d:DataW H}{A:X MemPlace}{r:Reach}{s:Nat}(b:Value.okWide P W r s t v)(h:DataW.Trod enc P W 0 (fun _=>true) true t v d A):∃u,dc W u v/\hY P t u:=by
 obtain⟨c,z⟩:=h;obtain⟨m,j,l,y,p⟩:=sw w c t q _ _ z;have o:=all_eq_true.1 w t q;unfold ZN at o;have one:v.cells.toList=[v]->(match P.underlying t with
   |some (.struct _)=>False|some (.array _ _)=>False
   |_=>True)->∃u,dc W u v/\hY P t u:=fun i hm=>by
  rw[i]at j l
  match m,l with
  |[u],_=>simp only[o3,X1]at j;refine⟨u,j,c,[u],p,?_⟩;split<;>simp_all
 have agg:(∃f,v=.agg f)->(match P.underlying t with
   |some (.struct _)=>True|some (.array _ _)=>True
   |_=>False)->∃u,dc W u v/\hY P t u:=fun⟨f,i⟩ hm=>by
  subst i;refine⟨.agg m,?_,c,m,p,?_⟩;simp only[dc];exact⟨f.toList,rfl,j,l,y⟩;split<;>simp_all
 unfold Value.okWide at b;rcases a:P.underlying t with _|x;simp[a]at o;cases x with
 |struct B=>simp only[a]at b;obtain⟨f,i,_⟩:=b;exact agg ⟨f,i⟩ (by simp[a])
 |array n e=>simp only[a]at b;obtain⟨f,i,_⟩:=b;exact agg ⟨f,i⟩ (by simp[a])
 |bool=>refine one ?_ (by simp[a]);simp only[a,Cell.okWide]at b;cases v<;>first |rfl |(simp[Cell.ok,a]at b)
 |int k=>refine one ?_ (by simp[a]);simp only[a,Cell.okWide]at b;cases v<;>first |rfl |(simp[Cell.ok,a]at b)
 |string=>refine one ?_ (by simp[a]);simp only[a,Cell.okWide]at b;cases v<;>first |rfl |(simp[Cell.ok,a]at b)
 |slice e=>refine one ?_ (by simp[a]);simp only[a,Cell.okWide]at b;cases v<;>first |rfl |(simp[Cell.ok,a]at b)
 |_=>simp[a]at o
def iT:∀{i:X TypeId}{k:X I}{l:X (DataW H)}{e:X MemPlace}{r:Reach}{a:Nat},(∀t∈i,t∈g)->(∀(j:Nat) t v,i[j]? = some t->k[j]? = some v->Value.okWide P W r a t v)->DataW.TrodAll enc P W 0 (fun _=>true) true i k l e->
  ∃f,o3 W f k/\f.length=k.length/\jE P i f
 |[],[],[],e,r,a,c,b,h=>⟨[],by simp[o3],rfl,rfl⟩|t::i,v::k,d::l,e,r,a,c,b,h=>by obtain⟨p,q,m,n,_⟩:=h;obtain⟨u,g1,g2⟩:=z9e w (c t ca) (b 0 t v rfl rfl) m;obtain⟨f,A,B,C⟩:=iT (fun x z=>c x<|by simp[z]) (fun j x y o s=>b (j+1) x y (by simpa using o)<|by simpa using s) n;exact⟨u::f,by simp[o3,g1,A],by simp[B],u,f,rfl,g2,C⟩
 |[],_::_,_,e,r,a,c,b,h=>by simp[DataW.TrodAll]at h
 |[],[],_::_,e,r,a,c,b,h=>by simp[DataW.TrodAll]at h
 |_::_,[],_,e,r,a,c,b,h=>by simp[DataW.TrodAll]at h
 |_::_,_::_,[],e,r,a,c,b,h=>by simp[DataW.TrodAll]at h
end
def QN:A m9->A m9
 |some (.inl (l,e,1))=>some (.inl (l,e,1))|_=>none
def Kj(g:Nat->A m9):Hp->Hp
 |[]=>[]|(i,_)::h=>match g i with
  |some b=>(i,b)::Kj g h|none=>Kj g h
def z0u(g:Nat->A m9):∀(h:Hp)(i:Nat),lk (Kj g h) i=(match lk h i with |some _=>g i |none=>none)
 |[],i=>by simp[Kj,lk]
 |(j,b)::h,i=>by
  have a:=z0u g h i;simp only[Kj];cases d:g j with
  |none=>simp only[mD];by_cases e:j=i;subst e;simp only[It];rw[a,d];split<;>rfl;simp only[e,LX];exact a|some c=>simp only[mD];by_cases e:j=i;subst e;simp[d];simp only[e,LX];exact a
def C7(s:S):S:=⟨Kj (fun i=>QN<|lk s.h i) s.h,s.nx⟩
def NF(s:S)(i:Nat):lk (C7 s).h i=QN (lk s.h i):=by simp only[C7,z0u];rcases h:lk s.h i with _|b;rfl;simp
def UJ{o:A m9}{b:m9}(h:QN o=some b):o=some b/\∃l e,b=.inl (l,e,1):=by unfold QN at h;split at h;simp at h;subst h;exact⟨rfl,_,_,rfl⟩;cases h
def qo6(s:S):Gp s (C7 s):=⟨zF _,fun i b a=>by rw[NF]at a;exact(UJ a).1⟩
def aT.view{P:Ib}{f:FuncId}{args a:X U}{Y:Sg}{u:U}{v:I}(h:aT P f args ⟨[],0⟩ (fun g _=>g=u/\aS 0 g))(ha:aG 0 args)(L:cK u=some v)(A:∀m,G0 m v=v){V:Sg}(hg:Gh 0 a Y args V):aT P f a Y (fun g T=>g=u/\T=Y):=fun F x R m w j M K G he D n=>by
 obtain⟨o,W,a2,a3,a4,a5,a6⟩:=hg F x R M K G he;have H:=W m w D;have C:=bJ.less H.fits<|qo6 o.s;have Z:Mo 0 o (cx<|C7 o.s):=⟨fun k hk=>ag,fun i row e hl=>by show lk (C7 o.s).h i=_;rw[NF,hl];rfl⟩;have fS:∀b,¬ SU m (C7 o.s) b:=fun b ⟨i,c,J,ho,_⟩=>by rw[NF]at J;obtain⟨_,l,e,rfl⟩:=UJ J;simp[iK]at ho
 refine(h (fun _ _=>False) (cx<|C7 o.s) R m w j rfl ⟨fun k b d=>by simp[cx,gt]at d,fun k k' b b' i d=>by simp[cx,gt]at d,fun i b d=>?_⟩ (fun _ _ O=>O.elim) (Z.ke.E ha a5) C.fits (n.ext (aJ.refl _ _)<|eb H.nx C.nx)).mono ?_;have B:lk (C7 o.s).h i=some b:=d;rw[NF]at B;exact a3.bd i b (UJ B).1;rintro e o9 ⟨y2,FK,g,Q,q,rfl,⟨rfl,_⟩,p,iF,_,_,S,_,_⟩;have hv:=(DL g v L y2 Q).1 S;subst hv;have y:q=Q:=by rw[<-iF.at,A]
 subst y;have N:∀b,b<w.heap.size->o9.heap[b]? = w.heap[b]?:=fun b t=>p.same b t<|fS b;refine⟨x,m,g,q,q,rfl,⟨rfl,M⟩,⟨aJ.refl _ _,zF _,fun z fT=>?_,fun b h=>.inl h,fun b t _=>N b t,p.size,p.os,p.tape,p.output⟩,fun z _=>A z,K,G,(DL g q L x q).2 rfl,Ke.refl _ _,zF _⟩;have r:=D z fT;exact⟨fun i b d=>(r.ok i b d).world (N _<|r.size d),r.inj,r.bd⟩
abbrev RK:=Nat×eK
def RH(P:Ib)(T:Tb)(c:X Oper):X Oper->X U->Sg->X RK->(X RK->X U->Sg->Prop)->Prop
 |[],a,Y,e,K=>K e a Y|o::r,a,Y,e,K=>(c9 c a o=some true/\∃u,bH T Y a o.op=some (u,Y)/\RH P T c r (eH a o.dst u) Y ((1,⟨a,o,u,false,false,Y,Y⟩)::e) K)\/ (c9 c a o=some true/\∃u b,bH T Y a o.op=some (u,b)/\RH P T c r (eH a o.dst u) b ((3,⟨a,o,u,true,true,Y,b⟩)::e) K)\/ (c9 c a o=some true/\∃f args u,kM T a o.op=some (f,args)/\aT P f args Y (fun h b=>h=u/\b=Y)/\RH P T c r (eH a o.dst u) Y ((2,⟨a,o,u,true,false,Y,Y⟩)::e) K)\/ (c9 c a o=some true/\∃f args u b,kM T a o.op=some (f,args)/\aT P f args Y (fun h j=>h=u/\j=b)/\RH P T c r (eH a o.dst u) b ((3,⟨a,o,u,true,true,Y,b⟩)::e) K)\/ (c9 c a o=some false/\RH P T c r (eH a o.dst<|.a7 []) Y ((0,⟨a,o,.a7 [],false,false,Y,Y⟩)::e) K)\/ (c9 c a o=some true/\∃u,uY P T a o.op u/\RH P T c r (eH a o.dst u) Y ((0,⟨a,o,u,false,false,Y,Y⟩)::e) K)\/ (c9 c a o=some true/\∃i g d u b,bH T Y a o.op=some (i,g)/\o.dst=some d/\d<a.length/\Gh g.nx [i] g [u] b/\g.nx<=b.nx/\RH P T c r (eH a o.dst u) b ((3,⟨a,o,u,true,true,Y,b⟩)::e) K)
def kindOk(T:Tb)(a:X Oper)(x:RK):Prop :=
 (x.1=0/\(c9 a x.2.tm x.2.o=some false\/bH T x.2.s x.2.tm x.2.o.op≠some (x.2.u,x.2.s'))/\x.2.act=false/\x.2.mv=false)\/(x.1=1/\x.2.act=false/\x.2.mv=false)\/(x.1=2/\x.2.act=true/\x.2.mv=false)\/(x.1=3/\x.2.act=true/\x.2.mv=true)
def RD.mono{P:Ib}{T:Tb}{m:X Oper}:∀{c:X Oper}{j:X U}{Y:Sg}{K l:X eK->X U->Sg->Prop},(∀n j Y,K n j Y->l n j Y)->RD P T m c j Y K->RD P T m c j Y l
 |[],j,Y,K,l,g,h=>g _ _ _ h|o::c,j,Y,K,l,g,h=>by simp only[RD]at h ⊢;obtain⟨b,u,a,e⟩|⟨b,u,k,a,e⟩|⟨b,f,args,u,a,e,i⟩|⟨b,f,args,u,k,a,e,i⟩|⟨b,a⟩|⟨b,u,a,i⟩|⟨b,t,s,d,u,k,a,e,i,p,q,r⟩:=h;exact .inl ⟨b,u,a,RD.mono (fun _ _ _ h=>g _ _ _ h) e⟩;exact .inr<|.inl ⟨b,u,k,a,RD.mono (fun _ _ _ h=>g _ _ _ h) e⟩;exact .inr<|.inr<|.inl ⟨b,f,args,u,a,e,RD.mono (fun _ _ _ h=>g _ _ _ h) i⟩;exact .inr<|.inr<|.inr<|.inl ⟨b,f,args,u,k,a,e,RD.mono (fun _ _ _ h=>g _ _ _ h) i⟩;exact .inr<|.inr<|.inr<|.inr<|.inl ⟨b,RD.mono (fun _ _ _ h=>g _ _ _ h) a⟩;exact .inr<|.inr<|.inr<|.inr<|.inr<|.inl ⟨b,u,a,RD.mono (fun _ _ _ h=>g _ _ _ h) i⟩;exact .inr (.inr<|.inr<|.inr<|.inr<|.inr ⟨b,t,s,d,u,k,a,e,i,p,q,RD.mono (fun _ _ _ h=>g _ _ _ h) r⟩)
def RH.rd{P:Ib}{T:Tb}{l:X Oper}:∀{g:X Oper}{r:X U}{Y:Sg}{m:X RK}{K:X RK->X U->Sg->Prop},RH P T l g r Y m K->
  RD P T l g r Y (fun q i n=>∃c:X RK,c.map (·.2)=q/\(∀x∈c,kindOk T l x)/\K (c.reverse++m) i n)
 |[],r,Y,m,K,h=>⟨[],rfl,by simp,h⟩|o::g,r,Y,m,K,h=>by
  have step:∀(k:RK),kindOk T l k->∀(q:X eK)(i:X U)(n:Sg),(∃c:X RK,c.map (·.2)=q/\(∀x∈c,kindOk T l x)/\K (c.reverse++k::m) i n)->
    ∃c:X RK,c.map (·.2)=k.2::q/\(∀x∈c,kindOk T l x)/\K (c.reverse++m) i n:=by
   rintro k y q i n ⟨c,a,e,j⟩;refine⟨k::c,by simp[a],?_,by simpa using j⟩;intro x s;obtain rfl |s:=zI.1 s;exact y;exact e x s
  simp only[RH]at h;simp only[RD];obtain⟨b,u,a,e⟩|⟨b,u,p,a,e⟩|⟨b,f,args,u,a,e,j⟩|⟨b,f,args,u,p,a,e,j⟩|⟨b,a⟩|⟨b,u,a,j⟩|⟨b,A,z,d,u,p,a,e,j,t,v,w⟩:=h;exact .inl ⟨b,u,a,RD.mono (step (1,_)<|.inr<|.inl ⟨rfl,rfl,rfl⟩)<|RH.rd e⟩;exact .inr<|.inl ⟨b,u,p,a,RD.mono (step (3,_)<|.inr<|.inr<|.inr ⟨rfl,rfl,rfl⟩)<|RH.rd e⟩;exact .inr<|.inr<|.inl ⟨b,f,args,u,a,e,RD.mono (step (2,_)<|.inr<|.inr<|.inl ⟨rfl,rfl,rfl⟩)<|RH.rd j⟩;exact .inr<|.inr<|.inr<|.inl ⟨b,f,args,u,p,a,e,RD.mono (step (3,_)<|.inr<|.inr<|.inr ⟨rfl,rfl,rfl⟩)<|RH.rd j⟩;exact .inr<|.inr<|.inr<|.inr<|.inl ⟨b,RD.mono (step (0,_)<|.inl ⟨rfl,.inl b,rfl,rfl⟩)<|RH.rd a⟩;exact .inr<|.inr<|.inr<|.inr<|.inr<|.inl ⟨b,u,a,RD.mono (step (0,_)<|.inl ⟨rfl,.inr<|a.yR _,rfl,rfl⟩)<|RH.rd j⟩;exact .inr (.inr<|.inr<|.inr<|.inr<|.inr ⟨b,A,z,d,u,p,a,e,j,t,v,RD.mono (step (3,_)<|.inr<|.inr<|.inr ⟨rfl,rfl,rfl⟩)<|RH.rd w⟩)
def allI{a:Type}(p:Nat->a->Rl):Nat->X a->Rl
 |_,[]=>true|b,x::l=>p b x&&allI p (b+1) l
def MN{a:Type}{p:Nat->a->Rl}:∀{b:Nat}{l:X a},allI p b l=true->∀{j:Nat}{x:a},l[j]? = some x->p (b+j) x=true
 |b,[],_,j,x,c=>by simp at c
 |b,y::l,h,j,x,c=>by
  simp only[allI,fO]at h;cases j with
  |zero=>simp at c;subst c;exact h.1|succ j=>
   simp only[zH]at c;have:=MN h.2 c
   rwa [show b+1+j=b+(j+1) by omega]at this
def Oq(k:Nat):Nat:=cond (Nat.beq k 3) 1 0
def lz:Nat->X Nat->X Nat->X (Nat×Nat×Nat)
 |c,k::a,m::b=>(k,m,c)::lz (c+Oq k) a b|_,_,_=>[]
def pW:X Nat->Nat
 |[]=>0|k::a=>Oq k+pW a
def z3x:∀(a e:X Nat)(c j k m:Nat),a[j]? = some k->e[j]? = some m->(lz c a e)[j]? = some (k,m,c+pW (a.take j))
 |[],_,c,j,k,m,h,_=>by simp at h
 |_::_,[],c,j,k,m,_,h=>by simp at h
 |f::a,g::e,c,0,k,m,b,d=>by simp at b d;subst b;subst d;simp[lz,pW]
 |f::a,g::e,c,j+1,k,m,b,d=>by simp only[zH]at b d;simp only[lz,zH,Fe,pW];rw[z3x a e _ j k m b d];simp only[my]
def FL(i k:Nat):X (Nat×Nat)->Rl
 |[]=>false|p::l=>(Nat.beq i p.1&&Nat.beq k p.2)||FL i k l
def TL{i k:Nat}:∀{l:X (Nat×Nat)},FL i k l=true->(i,k)∈l
 |[],h=>by simp[FL]at h
 |p::l,h=>by simp only[FL,nw,fO]at h;obtain⟨a,b⟩|h:=h;rw[Kf a,Kf b];simp;exact kj _ (TL h)
def Xf(c:X (Nat×Nat))(i:Nat)(a:Nat×Nat×Nat)(k:Nat)(b:Nat×Nat×Nat):Rl :=
 cond (ble 2 b.1) (cond (ble 2 a.1) (cond (blt k i) (testBit a.2.1 k) true) (cond (Nat.beq a.1 1) (cond (blt k i) (testBit a.2.1 k||(Nat.beq b.2.2 a.2.2||FL i k c))<|testBit b.2.1 i||(Nat.beq a.2.2 (b.2.2+Oq b.1)||FL i k c))
    true))
  true
def flE(c:X Oper)(d:X Nat)(e:X (Nat×Nat)):Rl :=
 let L:=lz 0 d (dU c [])
 allI (fun i a=>allI (fun k b=>Xf e i a k b) 0 L) 0 L
def uf(T:Tb)(a:X RK)(p:Nat×Nat):Prop:=match nth a p.1,nth a p.2 with
 |some r,some q=>cond (blt p.2 p.1) (bH T q.2.s r.2.tm r.2.o.op=some (r.2.u,q.2.s)) (bH T q.2.s' r.2.tm r.2.o.op=some (r.2.u,q.2.s'))|_,_=>False
def sd(T:Tb)(a:X RK):X (Nat×Nat)->Prop
 |[]=>True|p::l=>uf T a p/\sd T a l
def qhb{T:Tb}{b:X RK}:∀{l:X (Nat×Nat)},sd T b l->∀p∈l,uf T b p
 |[],_,p,a=>by cases a
 |q::l,h,p,a=>by obtain rfl |a:=zI.1 a;exact h.1;exact qhb h.2 p a
def z5b{c:X Nat}:∀{q p:Nat},p<=q->q<=c.length->pW (c.take p)=pW (c.take q)->∀(e k:Nat),p<=e->e<q->c[e]? = some k->k≠3
 |q,p,s,r,h,e,k,g,o,i=>by
  have mono:∀(l:X Nat)(a b:Nat),a<=b->pW (l.take a)<=pW (l.take b):=by
   intro l;induction l with
   |nil=>intro a b _;simp[pW]|cons x l d=>
    intro a b m;cases a with
    |zero=>simp[pW]|succ a=>cases b with|zero=>omega|succ b=>simp only[Fe,pW];have:=d a b ag;omega
  have succ:∀(l:X Nat)(a k:Nat),l[a]? = some k->pW (l.take<|a+1)=pW (l.take a)+Oq k:=by
   intro l;induction l with
   |nil=>intro a k h;simp at h|cons x l d=>
    intro a k h;cases a with
    |zero=>simp at h;subst h;simp[pW]|succ a=>simp only[zH]at h;simp only[Fe,pW];rw[d a k h];omega
  intro j;have n:=mono c p e g;have f:=succ c e k i;have a3:=mono c (e+1) q ag;rw[j]at f;have:Oq 3=1:=rfl;omega
section
variable{C:PG}{T:Tb}(f:j0 C.prog T){n0:Nat}{Q:Exit->X U->Sg->Prop}{tm:X U}{Y:Sg}
include f
def I6.uB {id : Nat} {t : Ie Oper} (pr : X (Nat × Nat)) (cQ : Bq t.toList = true)
    (h:RH C.prog T t.toList t.toList tm Y [] (fun n L H=> flE t.toList (n.reverse.map (·.1)) pr=true/\sd T n.reverse pr/\Q .normal L H)):I6 C n0 (.region id t true) tm Y Q:=by
  obtain⟨v,L,H,⟨n,vF,ow,yW,m4,hQ⟩,g2,g3,g4,g5⟩:=TF _ _ _ _<|RH.rd h;simp only[il,reverse_reverse]at yW m4;have jM:p_ C.prog T t.toList tm Y v L H:=⟨g2,g3,g4,fun i r g=> by obtain⟨a,b,c,d,_⟩:=g5 i r g;exact⟨a,b,c,d⟩⟩;have same : ∀(p q:Nat),p<=q->q<=v.length->(∀(e:Nat)(r:eK),p<=e->e<q->v[e]? = some r->r.mv=false)->kJ v H p=kJ v H q:=by
    intro p q uE D fS;induction q with
    | zero => have : p = 0 := by omega
              rw[this]
    |succ q ih=>
      obtain h |h:=XL q p;have:p=q+1:=by omega
      rw[this];rw[ih h ag fun e r z F A=> fS e r z ag A];have g:v[q]? = some v[q]:=by simp[show q<v.length by omega]
      obtain⟨_,_,k3,_,k5,_⟩:=g5 q _ g;rw[k3,k5<|fS q _ h (zN _) g];simp[kJ,g]
  have aP:n.length=v.length:=by rw[<-vF];simp
  have at_ : ∀(i:Nat)(r:eK),v[i]? = some r->∃k,n[i]? = some (k,r)/\kindOk T t.toList (k,r):=by intro i r g;rw[<-vF]at g;simp only[vz]at g;rcases w:n[i]? with _|x;rw[w]at g;simp at g;obtain⟨k,r'⟩:=x;rw[w]at g;simp at g;subst g;exact⟨k,rfl,ow _<|zX w⟩
  have trp : ∀(i k:Nat)(r:eK),n[i]? = some (k,r)->∃m,(dU t.toList [])[i]? = some m/\(lz 0 (n.map (·.1))<|dU t.toList [])[i]? = some (k,m,pW<|(n.map (·.1)).take i):=by
    intro i k r w;obtain⟨m1,_,_⟩:=QM t.toList [];have hi:i<t.toList.length:=by rw[<-g2, <-aP];exact(zG.1 w).1
    have hm:i<(dU t.toList []).length:=by rw[m1];simpa using hi
    refine⟨(dU t.toList [])[i],by simp[hm], ?_⟩;have:=z3x (n.map (·.1)) (dU t.toList []) 0 i k _ (by simp[w]) (show(dU t.toList [])[i]? = some (dU t.toList [])[i] by simp[hm])
    rwa [Wy]at this
  have I : ∀ (i k N kk : Nat) (r q : eK), n[i]? = some (N, r) -> n[k]? = some (kk, q) -> ∃ E mk, (dU t.toList [])[i]? = some E /\ (dU t.toList [])[k]? = some mk /\
      Xf pr i (N,E,pW<|(n.map (·.1)).take i) k (kk,mk,pW<|(n.map (·.1)).take k)=true:=by
    intro i k N kk r q hi w;obtain⟨E,M,P⟩:=trp i N r hi;obtain⟨mk,j,e4⟩:=trp k kk q w;refine⟨E,mk,M,j, ?_⟩;have z:=MN yW P;have F:=MN z e4;simpa using F
  have G : ∀(p q:Nat),p<=q->q<=v.length->pW ((n.map (·.1)).take p)=pW ((n.map (·.1)).take q)->kJ v H p=kJ v H q:=by
    intro p q uE D hc;refine same p q uE D fun e r z F A=> ?_;obtain⟨k,w,qm⟩:=at_ e r A;have:=z5b uE (by simp;omega) hc e k z F (by simp[w]);obtain h |h |h |h:=qm
    exact h.2.2.2;exact h.2.2;exact h.2.2;exact absurd h.1 this
  have y : ∀(i:Nat)(r:eK),v[i]? = some r->r.act=true->∃k,n[i]? = some (k,r)/\ble 2 k=true:=by intro i r g B;obtain⟨k,w,qm⟩:=at_ i r g;refine⟨k,w, ?_⟩;obtain h |h |h |h:=qm;have:=h.2.2.1;simp only[]at this;rw[B]at this;cases this;have:=h.2.1;simp only[]at this;rw[B]at this;cases this;have:=h.1;simp only[]at this;subst this;rfl;have:=h.1;simp only[]at this;subst this;rfl
  have kqu : ∀(i:Nat)(r:eK),v[i]? = some r->r.act=false->c9 t.toList r.tm r.o=some true->bH T r.s r.tm r.o.op=some (r.u,r.s')->n[i]? = some (1,r):=by intro i r g B Z W;obtain⟨k,w,qm⟩:=at_ i r g;obtain h |h |h |h:=qm;obtain R |R:=h.2.1;simp only[]at R;rw[Z]at R;cases R;exact absurd W R;have:=h.1;simp only[]at this;subst this;exact w;have:=h.2.1;simp only[]at this;rw[B]at this;cases this;have:=h.2.1;simp only[]at this;rw[B]at this;cases this
  have succ : ∀(l:X Nat)(a k:Nat),l[a]? = some k->pW (l.take<|a+1)=pW (l.take a)+Oq k:=by
    intro l;induction l with
    |nil=> intro a k h;simp at h|cons x l ih=>
      intro a k h;cases a with
      |zero=> simp at h;subst h;simp[pW]|succ a=> simp only[zH]at h;simp only[Fe,pW];rw[ih a k h];omega
  refine I6.drawn f cQ jM ⟨fun i k r q g D B V O=> ?_,fun i k r q g D B Z W V O=> ?_,fun i k r q g D B Z W V O=> ?_⟩ (fun i r g h=> (g5 i r g).2.2.2.2.2 h) hQ;obtain⟨N,z,F⟩:=y i r g B;obtain⟨kk,A,S⟩:=y k q D V;obtain⟨E,mk,M,P,j⟩:=I i k N kk r q z A;simp only[Xf,F,S,zC,y5 O]at j;exact⟨E,M,j⟩;have z:=kqu i r g B Z W;obtain⟨kk,A,S⟩:=y k q D V;obtain⟨E,mk,M,P,j⟩:=I i k 1 kk r q z A;have J:ble 2 1=false:=rfl;have K:Nat.beq 1 1=true:=rfl;simp only[Xf,J,K,S,zC,zD,y5 O,nw]at j;obtain j |j |j:=j;exact .inl ⟨E,M,j⟩;have:=G k i ag (by have:=(zG.1 g).1;omega)<|Kf j;exact .inr (.inl<|by simpa[kJ,g,D]using this);have:=qhb m4 _<|TL j;simp only[uf,jT,z,A,y5 O,zC]at this;exact .inr<|.inr this;have z:=kqu i r g B Z W;obtain⟨kk,A,S⟩:=y k q D V;obtain⟨E,mk,M,P,j⟩:=I i k 1 kk r q z A;have J:ble 2 1=false:=rfl;have K:Nat.beq 1 1=true:=rfl;simp only[Xf,J,K,S,zC,zD,UB (show ¬ k<i by omega),nw]at j;obtain j |j |j:=j;exact .inl ⟨mk,P,j⟩;have hc:pW ((n.map (·.1)).take i)=pW ((n.map (·.1)).take (k+1)):=by rw[succ _ k kk<|by simp[A]];exact Kf j
  have:=G i (k+1) ag (by have:=(zG.1 D).1;omega) hc;have F:=(jM.all k q D).2.2.1;rw[F]at this;exact .inr (.inl<|by simpa[kJ,g]using this.symm);have:=qhb m4 _<|TL j;simp only[uf,jT,z,A,UB (show ¬ k<i by omega),zD]at this;exact .inr (.inr this)
end
def RH.call{P:Ib}{T:Tb}{b r:X Oper}{o:Oper}{a:X U}{Y:Sg}{c:X RK}{K:X RK->X U->Sg->Prop}{f:FuncId}{args:X U}{u:U}(g:c9 b a o=some true)(e:kM T a o.op=some (f,args))(i:aT P f args Y (fun j d=>j=u/\d=Y))
  (h:RH P T b r (eH a o.dst u) Y ((2,⟨a,o,u,true,false,Y,Y⟩)::c) K):RH P T b (o::r) a Y c K:=.inr (.inr<|.inl ⟨g,f,args,u,e,i,h⟩)
def RH.uG{P:Ib}{T:Tb}{c r:X Oper}{o:Oper}{a:X U}{Y b:Sg}{d:X RK}{K:X RK->X U->Sg->Prop}{f:FuncId}{args:X U}{u:U}(i:c9 c a o=some true)(g:kM T a o.op=some (f,args))(j:aT P f args Y (fun k e=>k=u/\e=b))
  (h:RH P T c r (eH a o.dst u) b ((3,⟨a,o,u,true,true,Y,b⟩)::d) K):RH P T c (o::r) a Y d K:=.inr (.inr<|.inr<|.inl ⟨i,f,args,u,b,g,j,h⟩)
mutual
def rU(V:Nat->Nat):U->U
 |.ptr k st off=>.ptr (V k) st off|.sl k off n c=>.sl (V k) off n c
 |.vl k st off n=>.vl (V k) st off n|.map k=>.map (V k)
 |.b4 l=>.b4 (eR V l)|.O t l=>.O t (uP V l)
 |.fn f a b=>.fn f (eR V a) (eR V b)|.agg l=>.agg (eR V l)
 |.a7 l=>.a7 (eR V l)|u=>u
def eR(V:Nat->Nat):X U->X U
 |[]=>[]|u::l=>rU V u::eR V l
def uP(V:Nat->Nat):X (X U)->X (X U)
 |[]=>[]|c::l=>eR V c::uP V l
end
def F4(V:Nat->Nat):∀l,(eR V l).length=l.length
 |[]=>rfl|u::l=>by simp[eR,F4 V l]
def Lr(V:Nat->Nat):∀l,(uP V l).length=l.length
 |[]=>rfl|u::l=>by simp[uP,Lr V l]
def Xg(V:Nat->Nat)(u:U):Y9 (rU V u)=Y9 u:=by cases u<;>simp[rU,Y9]
def IX(V:Nat->Nat):∀l,I5 (eR V l)=I5 l
 |[]=>rfl|u::l=>by simp[eR,I5,Xg,IX V l]
structure Y6(n:Nat)(V:Nat->Nat)(x y:Cx):Prop where
 ptr:∀k st off v,k<n->aD x (.ptr k st off) v->aD y (.ptr (V k) st off) v
 sl:∀k off m c v,k<n->aD x (.sl k off m c) v->aD y (.sl (V k) off m c) v
 vl:∀k st off m v,k<n->aD x (.vl k st off m) v->aD y (.vl (V k) st off m) v
 map:∀k v,k<n->aD x (.map k) v->aD y (.map (V k)) v
 l9:∀i row e,lk x.s.h i=some (.inl (row,e,1))->lk y.s.h i=some (.inl (row,e,1))
mutual
def aD.leaf{n:Nat}{V:Nat->Nat}{x y:Cx}(h:Y6 n V x y):(u:U)->(v:I)->aS n u->aD x u v->aD y (rU V u) v
 |.L2,v,_,_=>by simp[rU,aD]
 |.bool b,v,_,d=>by simpa[rU,aD]using d
 |.int k z,v,_,d=>by simpa[rU,aD]using d
 |.str l,v,_,d=>by simpa[rU,aD]using d
 |.b8,v,_,d=>by simpa[rU,aD]using d
 |.ptr k st off,v,g,d=>h.ptr k st off v (by simpa[aS]using g) d|.b4 l,v,g,d=>by simp only[rU,aD]at*;obtain⟨i,off,row,e,j,o,p,q⟩:=d;exact⟨i,off,row,e,j,h.l9 _ _ _ o,c7.leaf h l _ (by simpa[aS]using g) p,by rw[IX];exact q⟩
 |.J,v,_,d=>by simpa[rU,aD]using d
 |.sl k off m c,v,g,d=>h.sl k off m c v (by simpa[aS]using g) d|.vl k st off m,v,g,d=>h.vl k st off m v (by simpa[aS]using g) d
 |.O t l,v,g,d=>by simp only[rU,aD]at*;obtain⟨rfl,d⟩|⟨i,off,c,j,o,p⟩:=d;exact .inl ⟨rfl,d⟩;rw[Lr];refine .inr ⟨i,off,c,j,o,?_⟩;obtain rfl |⟨row,e,A,g1,g2,s⟩:=p;exact .inl rfl;exact .inr ⟨row,e,A,h.l9 _ _ _ g1,iD.leaf h l _ (by simpa[aS]using g) g2,s⟩
 |.e9,v,_,d=>by simpa[rU,aD]using d
 |.map k,v,g,d=>h.map k v (by simpa[aS]using g) d|.fn f a b,v,g,d=>by simp only[rU,aD]at*;obtain⟨B,C,j,o,p,q,w⟩:=d;simp only[aS]at g;exact⟨B,C,j,c7.leaf h a _ g.1 o,by rw[F4];exact p,c7.leaf h b _ g.2 q,by rw[F4];exact w⟩
 |.j7,v,_,d=>by simpa[rU,aD]using d
 |.j9,v,_,d=>by simpa[rU,aD]using d
 |.agg l,v,g,d=>by simp only[rU,aD]at*;obtain⟨r,j,o,p,q⟩:=d;exact⟨r,j,c7.leaf h l _ (by simpa[aS]using g) o,by rw[F4];exact p,by rw[IX];exact q⟩
 |.a7 l,v,g,d=>by simp only[rU,aD]at*;obtain⟨r,j,o,p⟩:=d;exact⟨r,j,c7.leaf h l _ (by simpa[aS]using g) o,by rw[F4];exact p⟩
def c7.leaf{n:Nat}{V:Nat->Nat}{x y:Cx}(h:Y6 n V x y):(l:X U)->(a:X I)->aG n l->c7 x l a->c7 y (eR V l) a
 |[],a,_,_=>by simp[eR,c7]
 |u::l,[],_,b=>by simp[c7]at b
 |u::l,v::a,c,b=>by simp only[eR,c7,aG]at*;exact⟨aD.leaf h u v c.1 b.1,c7.leaf h l a c.2 b.2⟩
def iD.leaf{n e:Nat}{V:Nat->Nat}{x y:Cx}(h:Y6 n V x y):(l:X (X U))->(a:X I)->lL n l->iD x e l a->iD y e (uP V l) a
 |[],a,_,_=>by simp[uP,iD]
 |c::l,a,d,b=>by simp only[uP,iD,lL]at*;exact⟨by rw[F4];exact b.1,by rw[IX];exact b.2.1,c7.leaf h c a d.1 b.2.2.1,iD.leaf h l _ d.2 b.2.2.2⟩
end
def rM(V:Nat->Nat)(e:ME):ME:=⟨rU V e.key,rU V e.val,e.born⟩
def rB(V:Nat->Nat):B->B
 |.row l e=>.row (eR V l) e|.vec l e c st=>.vec (eR V l) e c st
 |.map b a=>.map (b.map<|rM V) a
def TN(V:Nat->Nat)(b:B):(rB V b).st=b.st:=by cases b<;>rfl
mutual
def sb{n:Nat}{V κ:Nat->Nat}(h:∀k,k<n->κ (V k)=k):(u:U)->aS n u->rU κ (rU V u)=u
 |.ptr k _ _,c=>by simp only[aS]at c;simp[rU,h k c]
 |.sl k _ _ _,c=>by simp only[aS]at c;simp[rU,h k c]
 |.vl k _ _ _,c=>by simp only[aS]at c;simp[rU,h k c]
 |.map k,c=>by simp only[aS]at c;simp[rU,h k c]
 |.b4 l,c=>by simp only[aS]at c;simp[rU,UC h l c]
 |.O t l,c=>by simp only[aS]at c;simp[rU,Ps h l c]
 |.fn f a b,c=>by simp only[aS]at c;simp[rU,UC h a c.1,UC h b c.2]
 |.agg l,c=>by simp only[aS]at c;simp[rU,UC h l c]
 |.a7 l,c=>by simp only[aS]at c;simp[rU,UC h l c]
 |.L2,_=>rfl|.bool _,_=>rfl
 |.int _ _,_=>rfl|.str _,_=>rfl
 |.b8,_=>rfl|.J,_=>rfl
 |.e9,_=>rfl|.j7,_=>rfl
 |.j9,_=>rfl
def UC{n:Nat}{V κ:Nat->Nat}(h:∀k,k<n->κ (V k)=k):(l:X U)->aG n l->eR κ (eR V l)=l
 |[],_=>rfl|u::l,a=>by simp only[aG]at a;simp[eR,sb h u a.1,UC h l a.2]
def Ps{n:Nat}{V κ:Nat->Nat}(h:∀k,k<n->κ (V k)=k):(l:X (X U))->lL n l->uP κ (uP V l)=l
 |[],_=>rfl|c::l,a=>by simp only[lL]at a;simp[uP,UC h c a.1,Ps h l a.2]
end
def aZ.leaf{n:Nat}{V:Nat->Nat}{x y:Cx}(h:Y6 n V x y){l:X U}{a:X I}(c:aG n l)(b:aZ x l a):aZ y (eR V l) a:=⟨c7.leaf h l a c b.1,by rw[F4];exact b.2⟩
def o8.leaf{n:Nat}{V:Nat->Nat}{x y:Cx}(h:Y6 n V x y){k j:Nat}{b:B}(r:cV n b)(o:y.Z j=x.Z k)(t:∀i c,x.Z k=some i->lk x.s.h i=some c->lk y.s.h i=some c)(q:o8 x k b):o8 y j (rB V b):=by
 cases b with
 |row l e=>obtain⟨u,i,w,a,f,g⟩:=q;exact⟨by rw[IX];exact u,i,w,by rw[o,a],t _ _ a f,aZ.leaf h r g⟩
 |vec l e H st=>obtain⟨u,F,D⟩:=q;refine⟨by rw[IX];exact u,F,?_⟩;obtain⟨rfl,E⟩|⟨i,w,a,f,g⟩:=D;exact .inl ⟨rfl,by rw[o,E]⟩;exact .inr ⟨i,w,by rw[o,a],t _ _ a f,aZ.leaf h r g⟩
 |map C G=>obtain⟨i,p,a,f,g,A⟩:=q;refine⟨i,p,by rw[o,a],t _ _ a f,by simpa using g,fun j e d=>?_⟩;simp only[vz]at d;rcases m:C[j]? with _|e0;rw[m]at d;cases d;rw[m]at d;simp only[zM,zA]at d;subst d;obtain⟨v,q1,q2,q3,q4⟩:=A j e0 m;have z:=r e0<|zX m;exact⟨v,q1,aD.leaf h _ _ z.1 q2,aD.leaf h _ _ z.2 q3,q4⟩
structure U4(n:Nat)(V:Nat->Nat)(x y:Cx):Prop where
 ptr:∀k st off v,k<n->aD x (.ptr (V k) st off) v->aD y (.ptr k st off) v
 sl:∀k off m c v,k<n->aD x (.sl (V k) off m c) v->aD y (.sl k off m c) v
 vl:∀k st off m v,k<n->aD x (.vl (V k) st off m) v->aD y (.vl k st off m) v
 map:∀k v,k<n->aD x (.map (V k)) v->aD y (.map k) v
 l9:∀i row e,lk x.s.h i=some (.inl (row,e,1))->lk y.s.h i=some (.inl (row,e,1))
mutual
def aD.I9{n:Nat}{V:Nat->Nat}{x y:Cx}(h:U4 n V x y):(u:U)->(v:I)->aS n u->aD x (rU V u) v->aD y u v
 |.L2,v,_,_=>by simp[aD]
 |.bool b,v,_,d=>by simpa[rU,aD]using d
 |.int k z,v,_,d=>by simpa[rU,aD]using d
 |.str l,v,_,d=>by simpa[rU,aD]using d
 |.b8,v,_,d=>by simpa[rU,aD]using d
 |.ptr k st off,v,g,d=>h.ptr k st off v (by simpa[aS]using g) d|.b4 l,v,g,d=>by simp only[rU,aD]at*;obtain⟨i,off,row,e,o,p,j,q⟩:=d;exact⟨i,off,row,e,o,h.l9 _ _ _ p,c7.I9 h l _ (by simpa[aS]using g) j,by rw[IX]at q;exact q⟩
 |.J,v,_,d=>by simpa[rU,aD]using d
 |.sl k off m c,v,g,d=>h.sl k off m c v (by simpa[aS]using g) d|.vl k st off m,v,g,d=>h.vl k st off m v (by simpa[aS]using g) d
 |.O t l,v,g,d=>by simp only[rU,aD]at*;obtain⟨A,d⟩|⟨i,off,c,o,p,j⟩:=d;exact .inl ⟨X0 (by rw[<-Lr V,A];rfl),d⟩;rw[Lr]at o p;refine .inr ⟨i,off,c,o,p,?_⟩;obtain j |⟨row,e,B,g1,g2,s⟩:=j;exact .inl (X0 (by rw[<-Lr V,j];rfl));rw[Lr]at s;exact .inr ⟨row,e,B,h.l9 _ _ _ g1,iD.I9 h l _ (by simpa[aS]using g) g2,s⟩
 |.e9,v,_,d=>by simpa[rU,aD]using d
 |.map k,v,g,d=>h.map k v (by simpa[aS]using g) d|.fn f a b,v,g,d=>by simp only[rU,aD]at*;obtain⟨C,D,o,p,j,q,w⟩:=d;simp only[aS]at g;rw[F4]at j w;exact⟨C,D,o,c7.I9 h a _ g.1 p,j,c7.I9 h b _ g.2 q,w⟩
 |.j7,v,_,d=>by simpa[rU,aD]using d
 |.j9,v,_,d=>by simpa[rU,aD]using d
 |.agg l,v,g,d=>by simp only[rU,aD]at*;obtain⟨r,o,p,j,q⟩:=d;rw[F4]at j;rw[IX]at q;exact⟨r,o,c7.I9 h l _ (by simpa[aS]using g) p,j,q⟩
 |.a7 l,v,g,d=>by simp only[rU,aD]at*;obtain⟨r,o,p,j⟩:=d;rw[F4]at j;exact⟨r,o,c7.I9 h l _ (by simpa[aS]using g) p,j⟩
def c7.I9{n:Nat}{V:Nat->Nat}{x y:Cx}(h:U4 n V x y):(l:X U)->(a:X I)->aG n l->c7 x (eR V l) a->c7 y l a
 |[],a,_,_=>by simp[c7]
 |u::l,[],_,b=>by simp[eR,c7]at b
 |u::l,v::a,c,b=>by simp only[eR,c7,aG]at*;exact⟨aD.I9 h u v c.1 b.1,c7.I9 h l a c.2 b.2⟩
def iD.I9{n e:Nat}{V:Nat->Nat}{x y:Cx}(h:U4 n V x y):(l:X (X U))->(a:X I)->lL n l->iD x e (uP V l) a->iD y e l a
 |[],a,_,_=>by simp[iD]
 |c::l,a,d,b=>by simp only[uP,iD,lL]at*;exact⟨by rw[<-F4 V];exact b.1,by rw[<-IX V];exact b.2.1,c7.I9 h c a d.1 b.2.2.1,iD.I9 h l _ d.2 b.2.2.2⟩
end
def aZ.I9{n:Nat}{V:Nat->Nat}{x y:Cx}(h:U4 n V x y){l:X U}{a:X I}(c:aG n l)(b:aZ x (eR V l) a):aZ y l a:=⟨c7.I9 h l a c b.1,by rw[<-F4 V];exact b.2⟩
def o8.I9{n:Nat}{V:Nat->Nat}{x y:Cx}(h:U4 n V x y){k j:Nat}{b:B}(r:cV n b)(m:y.Z j=x.Z k)(t:∀i c,x.Z k=some i->lk x.s.h i=some c->lk y.s.h i=some c)(q:o8 x k (rB V b)):o8 y j b:=by
 cases b with
 |row l e=>obtain⟨g,i,u,a,d,f⟩:=q;exact⟨by rw[IX]at g;exact g,i,u,by rw[m,a],t _ _ a d,aZ.I9 h r f⟩
 |vec l e H st=>obtain⟨g,F,p⟩:=q;rw[IX]at g;refine⟨g,F,?_⟩;obtain⟨p,D⟩|⟨i,u,a,d,f⟩:=p;exact .inl ⟨X0 (by rw[<-F4 V,p];rfl),by rw[m,D]⟩;exact .inr ⟨i,u,by rw[m,a],t _ _ a d,aZ.I9 h r f⟩
 |map C G=>
  obtain⟨i,o,a,d,f,A⟩:=q;refine⟨i,o,by rw[m,a],t _ _ a d,by simpa using f,fun j e w=>?_⟩;have E:(C.map<|rM V)[j]? = some (rM V e):=by simp[w]
  obtain⟨v,q1,q2,q3,q4⟩:=A j _ E;have z:=r e<|zX w;exact⟨v,q1,aD.I9 h _ _ z.1 q2,aD.I9 h _ _ z.2 q3,q4⟩
def ix:X Nat->Nat->Nat->A Nat
 |[],_,_=>none|a::l,k,i=>cond (Nat.beq a k) (some i) (ix l k<|i+1)
def nm:X Nat->Nat->Nat->Nat
 |[],nx,j=>nx+j|a::_,_,0=>a
 |_::l,nx,j+1=>nm l nx j
def IY:∀(b:X Nat)(nx j:Nat),j<b.length->∃h:j<b.length,nm b nx j=b[j]
 |a::l,nx,0,h=>⟨h,rfl⟩|a::l,nx,j+1,h=>by obtain⟨c,e⟩:=IY l nx j (by simpa using h);exact⟨h,by simp[nm,e]⟩
def N0:∀(b:X Nat)(nx j:Nat),b.length<=j->nm b nx j=nx+(j-b.length)
 |[],nx,j,_=>by simp[nm]
 |a::l,nx,0,h=>by simp at h
 |a::l,nx,j+1,h=>by simp only[nm,N0 l nx j<|by simpa using h];simp
def z8o{a:X Nat}{nx:Nat}(g:a.Nodup)(d:∀k∈a,k<nx){i j:Nat}(h:nm a nx i=nm a nx j):i=j:=by by_cases f:i<a.length;obtain⟨_,e⟩:=IY a nx i f;by_cases b:j<a.length;obtain⟨_,c⟩:=IY a nx j b;rw[e,c]at h;exact(IS g).1 h;rw[e,N0 a nx j ag]at h;have:=d _<|kG f;omega;rw[N0 a nx i ag]at h;by_cases b:j<a.length;obtain⟨_,c⟩:=IY a nx j b;rw[c]at h;have:=d _<|kG b;omega;rw[N0 a nx j ag]at h;omega
def MJ:X Nat->Nat->Rl
 |[],_=>false|a::l,k=>cond (Nat.beq a k) true (MJ l k)
def py:∀(l:X Nat)(k:Nat),MJ l k=true↔k∈l
 |[],k=>by simp[MJ]
 |a::l,k=>by simp only[MJ,beq_eq,zI];by_cases e:a=k;simp[e];have:¬ k=a:=fun h=>e h.symm;simp[e,this,py l k]
def AP(a:X Nat)(nx:Nat):X (Nat×B)->X (Nat×B)
 |[]=>[]|(j,b)::h=>(nm a nx j,rB (nm a nx) b)::AP a nx h
def J4(a:X Nat):X (Nat×B)->X (Nat×B)
 |[]=>[]|(k,b)::h=>cond (MJ a k) (J4 a h) ((k,b)::J4 a h)
def qts{a:X Nat}{nx:Nat}(c:∀i j,nm a nx i=nm a nx j->i=j):∀(h:X (Nat×B))(j:Nat),gt (AP a nx h) (nm a nx j)=(gt h j).map (rB<|nm a nx)
 |[],j=>by simp[AP,gt]
 |(i,b)::h,j=>by simp only[AP,aV,qts c h j];by_cases e:i=j;simp[e];have:¬ nm a nx i=nm a nx j:=fun h=>e<|c _ _ h;simp[e,this]
def qk7{c:X Nat}{nx:Nat}:∀(h:X (Nat×B))(k:Nat),(∀j,nm c nx j≠k)->gt (AP c nx h) k=none
 |[],k,_=>by simp[AP,gt]
 |(i,b)::h,k,a=>by simp[AP,aV,a i,qk7 h k a]
def Tk(a:X Nat):∀(h:X (Nat×B))(k:Nat),gt (J4 a h) k=if k∈a then none else gt h k
 |[],k=>by simp[J4,gt]
 |(j,b)::h,k=>by
  have f:=Tk a h k;simp only[J4];cases c:MJ a j with
  |true=>have d:=(py a j).1 c;simp only[zC,f,aV];by_cases e:j=k;subst e;simp[d];simp[e]|false=>
   have d:¬ j∈a:=fun h=>by rw[(py a j).2 h]at c;cases c
   simp only[zD,aV,f];by_cases e:j=k;subst e;simp[d];simp[e]
def qm1(a b:X (Nat×B))(k:Nat):gt (a++b) k=match gt a k with |some c=>some c |none=>gt b k:=by induction a with|nil=>simp[gt]|cons p a d=>obtain⟨j,c⟩:=p;simp only[fV,aV,d];by_cases e:j=k<;>simp[e]
def xi(a:X Nat)(Y b:Sg):Sg:=⟨AP a Y.nx b.h++J4 a Y.h,Y.nx+(b.nx-a.length)⟩
mutual
def Rn:(u:U)->rU id u=u
 |.ptr k _ _=>by simp[rU]
 |.sl k _ _ _=>by simp[rU]
 |.vl k _ _ _=>by simp[rU]
 |.map k=>by simp[rU]
 |.b4 l=>by simp[rU,OH l]
 |.O t l=>by simp[rU,ZX l]
 |.fn f a b=>by simp[rU,OH a,OH b]
 |.agg l=>by simp[rU,OH l]
 |.a7 l=>by simp[rU,OH l]
 |.L2=>rfl|.bool _=>rfl
 |.int _ _=>rfl|.str _=>rfl
 |.b8=>rfl|.J=>rfl
 |.e9=>rfl|.j7=>rfl
 |.j9=>rfl
def OH:(l:X U)->eR id l=l
 |[]=>rfl|u::l=>by simp[eR,Rn u,OH l]
def ZX:(l:X (X U))->uP id l=l
 |[]=>rfl|c::l=>by simp[uP,OH c,ZX l]
end
def o8.T6{x y:Cx}{k:Nat}{b:B}(h:o8 x k b)(hm:Ke x.Y.nx x y)(g:y.Z k=x.Z k)(o:∀i c,x.Z k=some i->lk x.s.h i=some c->lk y.s.h i=some c):o8 y k b:=by
 cases b with
 |row l e=>obtain⟨p,i,q,a,f,d⟩:=h;exact⟨p,i,q,by rw[g,a],o _ _ a f,hm.E d.L5 d⟩
 |vec l e A st=>obtain⟨p,u,n⟩:=h;refine⟨p,u,?_⟩;obtain⟨n,r⟩|⟨i,q,a,f,d⟩:=n;exact .inl ⟨n,by rw[g,r]⟩;exact .inr ⟨i,q,by rw[g,a],o _ _ a f,hm.E d.L5 d⟩
 |map z w=>obtain⟨i,m,a,f,d⟩:=h;refine⟨i,m,by rw[g,a],o _ _ a f,d.1,fun j e t=>?_⟩;obtain⟨v,q1,q2,q3,q4⟩:=d.2 j e t;exact⟨v,q1,hm _ _ (aD.L5 _ _ q2) q2,hm _ _ (aD.L5 _ _ q3) q3,q4⟩
def o8.Z2{x:Cx}{k i:Nat}{b:B}(h:o8 x k b)(f:x.Z k=some i):∃c,lk x.s.h i=some c:=by
 cases b with
 |row l e=>obtain⟨_,j,o,a,d,_⟩:=h;rw[f]at a;cases a;exact⟨_,d⟩
 |vec l e r st=>obtain⟨_,_,n⟩:=h;obtain⟨_,g⟩|⟨j,o,a,d,_⟩:=n;rw[f]at g;cases g;rw[f]at a;cases a;exact⟨_,d⟩
 |map q p=>obtain⟨j,m,a,d,_⟩:=h;rw[f]at a;cases a;exact⟨_,d⟩
def aT.frame{P:Ib}{f:FuncId}{args:X U}{h0:X (Nat×B)}{R:U->Sg->Prop}(g:X Nat)(h:aT P f args ⟨h0,g.length⟩ R)(Y:Sg)(pN:g.Nodup)(aH:∀k∈g,k<Y.nx)(ha:aG g.length args)
  (T:∀k b,gt h0 k=some b->k<g.length/\cV g.length b/\gt Y.h (nm g Y.nx k)=some (rB (nm g Y.nx) b)):
  aT P f (eR (nm g Y.nx) args) Y (fun u Y'=>∃u0 oO,R u0 oO/\g.length<=oO.nx/\u=rU (nm g Y.nx) u0/\Y'=xi g Y oO):=fun F x vs m w cargs hx S eP he dH hargs=>by
 subst hx;have qo:∀i j,nm g x.Y.nx i=nm g x.Y.nx j->i=j:=fun i j h=>z8o pN aH h;have CY:∀k,k∈g->∃j,j<g.length/\nm g x.Y.nx j=k:=fun k z=>by obtain⟨j,q,e⟩:=HO z;exact⟨j,q,by rw[(IY g x.Y.nx j q).2,e]⟩
 have qb:∀j,j<g.length->nm g x.Y.nx j<x.Y.nx:=fun j q=>by rw[(IY g x.Y.nx j q).2];exact aH _ (kG q)
 let M:Cx:=⟨fun k=>if k<g.length then x.Z (nm g x.Y.nx k)else none,⟨h0,g.length⟩,x.s⟩
 have FQ:∀k,k<g.length->M.Z k=x.Z (nm g x.Y.nx k):=fun k z=>by simp[M,z]
 have Ff:∀k st (p:A Nat->Prop),k<g.length->Ref x (nm g x.Y.nx k) st p->Ref M k st p:=fun k st p z ⟨_,D⟩=>⟨z,fun b n=>by obtain⟨_,_,C⟩:=T k b n;have:=D _ C;rw[TN]at this;rw[FQ k z];exact this⟩;have Ox:U4 g.length (nm g x.Y.nx) x M:={
  ptr:=fun k st off v z o=>by simp only[aD]at*;exact⟨o.1,Ff k st _ z o.2⟩
  sl:=fun k off m c v z o=>by simp only[aD]at*;exact⟨o.1,Ff k 0 _ z o.2⟩
  map:=fun k v z o=>by simp only[aD]at*;exact⟨o.1,Ff k 0 _ z o.2⟩
  vl:=fun k st off m v z o=>by
   simp only[aD]at*;obtain⟨g1,g2,g3⟩:=o;refine⟨g1,z,fun b n=>?_⟩;obtain⟨_,_,C⟩:=T k b n;obtain⟨g4,g5⟩:=g3 _ C;rw[TN]at g4 g5;refine⟨g4,fun e=>?_⟩;obtain⟨l,e',sz,e7,e8⟩:=g5 e;rw[FQ k z];cases b with
   |vec l0 e0 Rg st0=>simp only[rB,B.vec.injEq]at e7;obtain⟨_,rfl,rfl,rfl⟩:=e7;exact⟨l0,_,_,rfl,e8⟩
   |row _ _=>simp[rB]at e7|map _ _=>simp[rB]at e7
  l9:=fun i row e K=>K }
 have hh0:jB M:=⟨fun k b n=>by obtain⟨r,D,J⟩:=T k b n;exact⟨r,o8.I9 Ox D (FQ k r) (fun i c _ K=>K) (S.ok _ _ J).2⟩,
  fun k G b b' i n bU I L=>by obtain⟨r,D,J⟩:=T k b n;obtain⟨vL,BQ,S0⟩:=T G b' bU;rw[FQ k r]at I;rw[FQ G vL]at L;exact qo _ _<|S.inj _ _ _ _ i J S0 I L,
  S.bd⟩
 let F0:Nat->m9->Prop:=fun i b=>lk x.s.h i=some b/\∀k c,gt h0 k=some c->x.Z (nm g x.Y.nx k)≠some i
 have hfr0:Fr F0 M:=fun i b O=>⟨O.1,fun k c N=>by rw[FQ k (T k c N).1];exact O.2 k c N⟩;refine(h F0 M vs m w cargs rfl hh0 hfr0 (aZ.I9 Ox ha he) dH hargs).mono ?_;rintro e w₁ ⟨E,aI,u0,v,cv,rfl,hR,aO,iF,qu,wD,BI,eC,gY⟩;have nT:g.length<=E.Y.nx:=gY;have qr:∀k,k<x.Y.nx->¬ k∈g->∀j,nm g x.Y.nx j≠k:=fun k z t j e=>by by_cases q:j<g.length;obtain⟨_,Q⟩:=IY g x.Y.nx j q;rw[Q]at e;exact t<|e ▸ kG q;rw[N0 g x.Y.nx j ag]at e;omega
 let inv:Nat->A Nat:=fun k=>if k<x.Y.nx then ix g k 0 else some (g.length+(k-x.Y.nx))
 let y:Cx:=⟨fun k=>if k∈g\/x.Y.nx<=k then(match inv k with |some j=>E.Z j |none=>none)else x.Z k,xi g x.Y E.Y,E.s⟩
 have hixg:∀(l:X Nat)(j i:Nat),l.Nodup->(q:j<l.length)->ix l l[j] i=some (i+j):=by
  intro l;induction l with
  |nil=>intro j i _ q;simp at q|cons a l ih=>
   intro j i pN q;cases j with
   |zero=>simp[ix,beq_eq]|succ j=>have cA:¬ a=l[j]'(by simpa using q):=fun h=>(nodup_cons.1 pN).1 (h ▸ kG _);simp only[getElem_cons_succ,ix,beq_eq,cA,yB,zD];rw[ih j (i+1) (nodup_cons.1 pN).2 (by simpa using q)];congr 1;omega
 have Gd:∀j,inv (nm g x.Y.nx j)=some j:=fun j=>by
  by_cases q:j<g.length;have r:=qb j q;obtain⟨_,Q⟩:=IY g x.Y.nx j q;simp only[inv,r,It];rw[Q,hixg g j 0 pN q];simp;have Q:=N0 g x.Y.nx j ag;have r:¬ nm g x.Y.nx j<x.Y.nx:=by omega
  simp only[inv,r,LX,zA];omega
 have FP:∀j,y.Z (nm g x.Y.nx j)=E.Z j:=fun j=>by
  have r:nm g x.Y.nx j∈g\/x.Y.nx<=nm g x.Y.nx j:=by by_cases q:j<g.length;obtain⟨_,Q⟩:=IY g x.Y.nx j q;exact .inl (by rw[Q];exact kG q);rw[N0 g x.Y.nx j ag];exact .inr ag
  simp only[y,r,It,Gd]
 have V:∀k,k<x.Y.nx->¬ k∈g->y.Z k=x.Z k:=fun k z t=>by
  have r:¬ (k∈g\/x.Y.nx<=k):=by rintro(h |h);exact t h;omega
  simp only[y,r,LX]
 have R4:∀j,gt y.Y.h (nm g x.Y.nx j)=(gt E.Y.h j).map (rB<|nm g x.Y.nx):=fun j=>by
  show gt (AP g x.Y.nx E.Y.h++J4 g x.Y.h) _=_;rw[qm1,qts qo];cases C:gt E.Y.h j with
  |some b=>rfl|none=>simp only[uv];rw[Tk];split;rfl;rename_i t;rcases R9:gt x.Y.h (nm g x.Y.nx j)with _|b;rfl;have:=(S.ok _ _ R9).1;exact absurd rfl (qr _ this t j)
 have hgn:∀k,k<x.Y.nx->¬ k∈g->gt y.Y.h k=gt x.Y.h k:=fun k z t=>by show gt (AP g x.Y.nx E.Y.h++J4 g x.Y.h) _=_;rw[qm1,qk7 _ _<|qr k z t,Tk,iy t]
 have qE:∀k b,gt y.Y.h k=some b->(∃j H,k=nm g x.Y.nx j/\gt E.Y.h j=some H/\b=rB (nm g x.Y.nx) H)\/(k<x.Y.nx/\¬ k∈g/\gt x.Y.h k=some b):=fun k b n=>by
  by_cases z:∃j,nm g x.Y.nx j=k;obtain⟨j,rfl⟩:=z;rw[R4]at n;rcases C:gt E.Y.h j with _|H;rw[C]at n;cases n;rw[C]at n;simp at n;exact .inl ⟨j,H,rfl,C,n.symm⟩;have sQ:∀j,nm g x.Y.nx j≠k:=fun j e=>z ⟨j,e⟩
  have yS:k<x.Y.nx:=by obtain h |h:=XL k x.Y.nx;exact h;exact absurd (by rw[N0 g x.Y.nx _ ag];omega) (sQ<|g.length+(k-x.Y.nx))
  have t:¬ k∈g:=fun h=>by obtain⟨j,_,e⟩:=CY k h;exact sQ j e
  rw[hgn k yS t]at n;exact .inr ⟨yS,t,n⟩
 have E4:∀k,k<x.Y.nx->k∈g\/¬ k∈g:=fun k _=>Classical.em _;have KB:y.Y.nx=x.Y.nx+(E.Y.nx-g.length):=rfl;have KU:∀j,j<E.Y.nx->nm g x.Y.nx j<y.Y.nx:=fun j q=>by rw[KB];by_cases vG:j<g.length;have:=qb j vG;omega;rw[N0 g x.Y.nx j ag];omega
 have KN:∀k st (p:A Nat->Prop),Ref E k st p->Ref y (nm g x.Y.nx k) st p:=fun k st p ⟨r,D⟩=>⟨KU k r,fun b n=>by rw[R4]at n;rcases C:gt E.Y.h k with _|H;rw[C]at n;cases n;rw[C]at n;simp only[zM,zA]at n;subst n;rw[TN,FP];exact D _ C⟩;have vD:Y6 E.Y.nx (nm g x.Y.nx) E y:={
  ptr:=fun k st off v _ o=>by simp only[aD]at*;exact⟨o.1,KN k st _ o.2⟩
  sl:=fun k off m c v _ o=>by simp only[aD]at*;exact⟨o.1,KN k 0 _ o.2⟩
  map:=fun k v _ o=>by simp only[aD]at*;exact⟨o.1,KN k 0 _ o.2⟩
  vl:=fun k st off m v _ o=>by simp only[aD]at*;obtain⟨g1,g2,g3⟩:=o;refine⟨g1,KU k g2,fun b n=>?_⟩;rw[R4]at n;rcases C:gt E.Y.h k with _|H;rw[C]at n;cases n;rw[C]at n;simp only[zM,zA]at n;subst n;rw[TN,FP];obtain⟨g4,g5⟩:=g3 _ C;refine⟨g4,fun e=>?_⟩;obtain⟨l,e',sz,rfl,e8⟩:=g5 e;exact⟨_,e',sz,rfl,e8⟩
  l9:=fun i row e K=>K }
 have himm:∀i row e,lk x.s.h i=some (.inl (row,e,1))->lk y.s.h i=some (.inl (row,e,1)):=fun i row e K=>(wD i _ ⟨K,fun k c N iL=>(S.ok _ _ (T k c N).2.2).2.pU iL K⟩).1;have KO:∀k st (p:A Nat->Prop),¬ k∈g->Ref x k st p->Ref y k st p:=fun k st p t ⟨r,D⟩=>⟨by rw[KB];omega,fun b n=>by rw[hgn k r t]at n;rw[V k r t];exact D b n⟩;have hkeL:Y6 x.Y.nx id x y:={
  ptr:=fun k st off v z o=>by by_cases t:k∈g;obtain⟨j,q,rfl⟩:=CY k t;exact vD.ptr j st off v ag (eC (.ptr j st off) v (by simpa[aS,M]using q)<|Ox.ptr j st off v q o);simp only[aD]at*;exact⟨o.1,KO k st _ t o.2⟩
  sl:=fun k off m c v z o=>by by_cases t:k∈g;obtain⟨j,q,rfl⟩:=CY k t;exact vD.sl j off m c v ag (eC (.sl j off m c) v (by simpa[aS,M]using q)<|Ox.sl j off m c v q o);simp only[aD]at*;exact⟨o.1,KO k 0 _ t o.2⟩
  map:=fun k v z o=>by by_cases t:k∈g;obtain⟨j,q,rfl⟩:=CY k t;exact vD.map j v ag (eC (.map j) v (by simpa[aS,M]using q)<|Ox.map j v q o);simp only[aD]at*;exact⟨o.1,KO k 0 _ t o.2⟩
  vl:=fun k st off m v z o=>by by_cases t:k∈g;obtain⟨j,q,rfl⟩:=CY k t;exact vD.vl j st off m v ag (eC (.vl j st off m) v (by simpa[aS,M]using q)<|Ox.vl j st off m v q o);simp only[aD,id]at*;obtain⟨g1,g2,g3⟩:=o;refine⟨g1,by rw[KB];omega,fun b n=>?_⟩;rw[hgn k g2 t]at n;rw[V k g2 t];exact g3 b n
  l9:=himm }
 have m5:∀u,rU id u=u/\True:=fun u=>⟨(Rn u),trivial⟩;have WA:Ke x.Y.nx x y:=fun u v n o=>by
  have:=aD.leaf hkeL u v n o
  rwa [(m5 u).1]at this
 have W5:∀k b i c,gt x.Y.h k=some b->¬ k∈g->x.Z k=some i->lk x.s.h i=some c->F0 i c:=fun k b i c n t I K=>⟨K,fun j d hd iL=>by
  obtain⟨r,_,J⟩:=T j d hd;have:=S.inj _ _ _ _ i J n iL I;have h5:nm g x.Y.nx j∈g:=by rw[(IY g x.Y.nx j r).2];exact kG r
  exact t<|this ▸ h5⟩
 refine⟨y,aI,rU (nm g x.Y.nx) u0,v,cv,rfl,⟨u0,E.Y,hR,nT,rfl,rfl⟩,aO,iF,⟨fun k b n=>?_,fun k G b b' i n bU I L=>?_,qu.bd⟩,fun i b O=>?_,aD.leaf vD u0 v (aD.L5 u0 v BI) BI,WA,by rw[KB];omega⟩;obtain⟨j,H,rfl,C,rfl⟩|⟨r,D,J⟩:=qE k b n;obtain⟨g1,g2⟩:=qu.ok j H C;exact⟨KU j g1,o8.leaf vD (g2.lU) (FP j) (fun i c _ K=>K) g2⟩;exact⟨by rw[KB];omega,(S.ok k b J).2.T6 WA (V k r D) fun i c I K=>(wD i c<|W5 k b i c J D I K).1⟩;have mixed:∀k G b H (j:Nat),k=nm g x.Y.nx j->gt E.Y.h j=some H->y.Z k=some i->G<x.Y.nx->¬ G∈g->gt x.Y.h G=some b->y.Z G=some i->False:=fun k G b H j e C I r D J L=>by subst e;rw[FP]at I;rw[V G r D]at L;obtain⟨c,N⟩:=(S.ok G b J).2.Z2 L;exact(wD i c<|W5 G b i c J D L N).2 j H C I
 obtain⟨j,H,Q,C,_⟩|⟨r,D,J⟩:=qE k b n;obtain⟨j',W,SF,tR,_⟩|⟨vL,BQ,S0⟩:=qE G b' bU;subst Q SF;rw[FP]at I L;rw[qu.inj j j' H W i C tR I L];exact(mixed k G b' H j Q C I vL BQ S0 L).elim;obtain⟨j',W,SF,tR,_⟩|⟨vL,BQ,S0⟩:=qE G b' bU;exact(mixed G k b W j' SF tR L r D J I).elim;rw[V k r D]at I;rw[V G vL BQ]at L;exact S.inj k G b b' i J S0 I L;obtain⟨r,D⟩:=eP i b O;have hF0:F0 i b:=⟨r,fun k c N=>D _ _ (T k c N).2.2⟩;refine⟨(wD i b hF0).1,fun k c N=>?_⟩;obtain⟨j,H,rfl,C,_⟩|⟨g1,g2,g3⟩:=qE k c N;rw[FP];exact(wD i b hF0).2 j H C;rw[V k g1 g2];exact D k c g3
def a8{b c:Type}(o:A b)(k:b->A c):A c:=match o with
 |some a=>k a|none=>none
variable{D:Type}{G:Type}
def aK{o:A D}{k:D->A G}{r:G}(h:a8 o k=some r):∃a,o=some a/\k a=some r:=by obtain _|a:=o;cases h;exact⟨a,rfl,h⟩
def c6{D G c:Type}{o:A D}{k:D->A G}{l:D->G->A c}{r:c}(h:a8 o (fun a=>a8 (k a)<|l a)=some r): ∃a,o=some a/\∃b,k a=some b/\l a b=some r:=by obtain⟨a,d,h⟩:=aK h;obtain⟨b,e,h⟩:=aK h;exact⟨a,d,b,e,h⟩
def pH{D G d e:Type}{o:A D}{k:D->A G}{l:D->G->A d}{p:D->G->d->A e}{r:e}(h:a8 o (fun a=>a8 (k a) fun b=>a8 (l a b)<|p a b)=some r): ∃a,o=some a/\∃b,k a=some b/\∃c,l a b=some c/\p a b c=some r:=by obtain⟨a,f,h⟩:=aK h;obtain⟨b,g,c,i,h⟩:=c6 h;exact⟨a,f,b,g,c,i,h⟩
def F3{D G e f g:Type}{o:A D}{k:D->A G}{l:D->G->A e}{p:D->G->e->A f}{q:D->G->e->f->A g}{r:g}(h:a8 o (fun a=>a8 (k a) fun b=>a8 (l a b) fun c=>a8 (p a b c)<|q a b c)=some r): ∃a,o=some a/\∃b,k a=some b/\∃c,l a b=some c/\∃d,p a b c=some d/\q a b c d=some r:=by obtain⟨a,i,h⟩:=aK h;obtain⟨b,j,c,m,d,n,h⟩:=pH h;exact⟨a,i,b,j,c,m,d,n,h⟩
@[simp] def aN{D G:Type}(a:D)(k:D->A G):a8 (some a) k=k a:=rfl
@[simp] def j_{D G:Type}(k:D->A G):a8 none k=none:=rfl
def Ij{c:Rl}{a b:A G}{r:A G}(h:c=true)(O:cond c a b=r):a=r:=by subst h;exact O
def Ik{c:Rl}{a b:A G}{r:A G}(h:c=false)(O:cond c a b=r):b=r:=by subst h;exact O
def aE{G:Type}(p:Prop)[Decidable p](k:A G):A G:=if p then k else none
def bY{p:Prop}[Decidable p]{k:A G}{r:G}(h:aE p k=some r):p/\k=some r:=by unfold aE at h;split at h;rename_i a;exact⟨a,h⟩;cases h
def qwg{p:Prop}[Decidable p]{k:A G}(h:p):aE p k=k:=by simp[aE,h]
def aC{D:Type}(l:X D)(i:Int):A D:=if 0<=i/\i<(l.length:Int)then l[i.toNat]? else none
variable{l:X D}{i:Int}{x:D}
def z0n(c:D->X U)(h:aC l i=some x):0<=i/\i<(l.length:Int)/\(l.map c)[i.toNat]? = some (c x):=by unfold aC at h;split at h;rename_i a;exact⟨a.1,a.2,by simp[h]⟩;cases h
def Me(h:aC l i=some x):0<=i/\i<(l.length:Int)/\l[i.toNat]? = some x:=by unfold aC at h;split at h;rename_i a;exact⟨a.1,a.2,h⟩;cases h
def cZ(i:Nat):aC l (i:Int)=l[i]?:=by unfold aC;by_cases h:i<l.length;simp[h];simp[h]
def cI(k:IntKind)(n:Int):X U:=[.int k n]
def cS(s:X RX):X U:=[.str s]
def cL{D:Type}(c:D->X U)(l:X D):X U:=[.O false<|l.map c]
def ut(n:Nat)(k:IntKind)(x:Int):aG n (cI k x):=by simp[cI,aG,aS]
def z7u(n:Nat)(x:X RX):aG n (cS x):=by simp[cS,aG,aS]
variable{c:D->X U}
def Je(n:Nat)(h:∀x,aG n<|c x)(x:X D):aG n (cL c x):=by simp[cL,aG,aS,vA c h x]
variable{sz:Nat}
def qz2(h:∀x,(c x).length=sz)(l:X D):((l.map c).all fun r=>Nat.beq r.length sz)=true:=by simp[h]
def FA(h:∀x,(c x).length=sz)(l:X D):((l.map c).flatten).length=l.length*sz:=by induction l with|nil=>simp|cons x l a=>simp only[zQ,Wx,zU,a,h,zO,eF];omega
def qvq(c:D->X U)(l k:X D):((l++k).map c).flatten=(l.map c).flatten++(k.map c).flatten:=ca
def zb5(h:∀x,(c x).length=sz)(l:X D):lW (l.map c).flatten (0*sz) (l.length*sz)=some (l.map c).flatten:=by have:=FA h l;simp only[lW,lg,Wy,this,zF,It,Xl];rw[<-this,xe]
def ba(h:∀x,(c x).length=sz)(l:X D)(i:Nat):((l.map c).flatten).drop (i*sz)=((l.drop i).map c).flatten:=by induction i generalizing l with|zero=>simp|succ i a=>obtain _|⟨x,l⟩:=l;simp;simp only[zQ,Wx,drop_succ_cons,eF];rw[zj,<-mh,zi (by rw[h];exact zF _)];rw[show(c x).drop sz=[]from Aa (by rw[h];exact zF _),eY,a]
def Re(h:∀x,(c x).length=sz)(l:X D)(i:Nat):((l.map c).flatten).take (i*sz)=((l.take i).map c).flatten:=by induction i generalizing l with|zero=>simp|succ i a=>obtain _|⟨x,l⟩:=l;simp;simp only[zQ,Wx,Fe,eF];rw[zj,take_append,h,zW (by rw[h];omega),nv,a]
def qlq(h:∀x,(c x).length=sz)(l:X D):bR sz l.length (l.map c).flatten=l.map c:=by induction l with|nil=>rfl|cons x l a=>simp only[zQ,Wx,zO,bR];rw[ya (by rw[h];exact zF _),zW (by rw[h];exact zF _),zi (by rw[h];exact zF _),Aa (by rw[h];exact zF _),eY,a]
def z43(h:∀x,(c x).length=sz)(f:aC l i=some x):lW (l.map c).flatten (0*sz+i.toNat*sz) sz=some (c x):=by
 obtain⟨j,k,b⟩:=Me f;have a:i.toNat<l.length:=by omega
 have e:=FA h l;have g:i.toNat*sz+sz<=l.length*sz:=by rw[<-eF];exact ri _ ag
 simp only[lW,lg,Wy,e,g,It,ba h,zA];have d:l.drop i.toNat=x::l.drop (i.toNat+1):=by rw[Xk a];rw[hF a]at b;rw[Option.some.inj b]
 rw[d];simp only[zQ,Wx];rw[ya (by rw[h];exact zF _),zW (by rw[h];exact zF _)]
def YH(h:∀x,(c x).length=sz)(d:0<sz)(b:aC l i=some x):((l.map c).flatten=[])=False:=by obtain⟨f,g,j⟩:=Me b;have a:=FA h l;simp only[eq_iff_iff,iff_false];intro e;rw[e]at a;have:0<l.length*sz:=Gk ag d;simp at a;omega
def zbl(h:∀x,(c x).length=1){u:D->U}(d:∀x,c x=[u x])(e:aC l i=some x):nth (l.map c).flatten (0*1+i.toNat*1)=some (u x):=by have:=z43 h e;obtain⟨f,a⟩:=UI this;rw[d]at a;rw[jT];have b:=congrArg (fun l:X U=>l[0]?) a;simp only[l8,na]at b;simpa using b.symm
def xX{D:Type}(l:X D)(b a:Int):A (X D):=if 0<=b/\b<=a/\a<=(l.length:Int)then some ((l.take a.toNat).drop b.toNat)else none
def qvi(c:D->X U)(l:X D)(a b:Nat):uV (l.map c) a b=((l.take b).drop a).map c:=by simp[uV,zy,zp]
variable{k:X D}{H:Int}{J:Int}
def qre(h:xX l H J=some k):0<=H/\H<=J/\J<=(l.length:Int)/\(l.take J.toNat).drop H.toNat=k:=by unfold xX at h;split at h;rename_i a;exact⟨a.1,a.2.1,a.2.2,Option.some.inj h⟩;cases h
def Si{n m:Nat}{k:IntKind}(a:0<=J)(b:J<=(n:Int)):nQ m n none (some<|.int k J)=some (0,J.toNat,n):=by have:tO J (n+1)=true:=N5 ⟨by omega,by omega⟩;simp[nQ,y4,this]
def ur{n:Nat}{k:IntKind}(a:0<=H)(b:H<=(n:Int)):nQ n n (some<|.int k H) none=some (H.toNat,n,n):=by have:tO H (n+1)=true:=N5 ⟨by omega,by omega⟩;simp[nQ,y4,this]
def AW(f:Nat)(E:X U->Sg->Prop)(Q:Exit->X U->Sg->Prop):Exit->X U->Sg->Prop
 |.normal,d,Y=>∃a b,E a b/\f<=b.nx/\Gh f d Y a b|e,d,Y=>Q e d Y
variable{C:PG}{n0:Nat}{Q:Exit->X U->Sg->Prop}{tm:X U}{Y:Sg}
def OG{c:Code}(E:X U->Sg->Prop)(out:∀tm Y,E tm Y->Q .normal tm Y)(h:I6 C n0 c tm Y (AW n0 E Q)):I6 C n0 c tm Y Q:=by
 refine I6.after h ?_;intro e b a n h;cases e with
 |normal=>obtain⟨f,d,g,j,m⟩:=h;exact⟨f,d,j,m,out _ _ g⟩
 |_=>exact⟨b,a,n,Gh.refl _ _ _,h⟩
def I6.uH{c:Code}{id:Nat}(a:Nat->X U->Sg->Prop)(E:X U->Sg->Prop)(n:Nat)(b:a n tm Y)
  (out:∀tm Y,E tm Y->Q .normal tm Y)
  (round:∀n tm Y,a n tm Y->I6 C n0 c tm Y (wS (fun e h=>∃g f d,g<n/\a g f d/\n0<=d.nx/\Gh n0 e h f d)<|v8 id<|AW n0 E Q)):I6 C n0 (.block id<|.loop c) tm Y Q:=by refine OG E out ?_;apply eX;exact I6.tM a n b round
variable{Y':Sg}
def aT.ghost{P:Ib}{f:FuncId}{args a:X U}{R:U->Sg->Prop}(hg:Gh Y.nx args Y a Y')(o:Y.nx<=Y'.nx)(h:aT P f a Y' R):aT P f args Y R:=fun F x p m w b g hh A he t d=>by
 obtain⟨y,g1,g2,B,E,I,K⟩:=hg F x p g hh A he;have j:=g1 m w t;refine(h F y p m w b g2 B E I j.fits<|d.ext (aJ.refl _ _) j.nx).mono ?_;rintro e q ⟨z,r,u,v,s,L,M,N,O,S,T,V,W,Z⟩;refine⟨z,r,u,v,s,L,M,j.trans N,O,S,T,V,?_,?_⟩;have n:Ke x.Y.nx x y:=by rw[g];exact K
 exact n.trans (W.le (by rw[g,g2];exact o));rw[g];exact eb o (by rw[<-g2];exact Z)
variable{tm':X U}
def I6.eqv{c:Code}(b:tm=tm')(a:Y=Y')(h:I6 C n0 c tm' Y' Q):I6 C n0 c tm Y Q:=by subst b;subst a;exact h
def Gh.eqv(b:tm=tm')(a:Y=Y'):Gh n0 tm Y tm' Y':=by subst b;subst a;exact Gh.refl _ _ _
mutual
inductive Wk:U->U->Prop
 |refl (u:U):Wk u u
 |nil (t:Bool):Wk .J (.O t [])
 |full (l:List (List U)):Wk (.O true l) (.O false l)
 |agg {l l':List U} (h:pQ l l'):Wk (.agg l) (.agg l')
 |a7 {l l':List U} (h:pQ l l'):Wk (.a7 l) (.a7 l')
inductive pQ:List U->List U->Prop
 |nil:pQ [] []
 |cons {u u':U} {l l':List U} (h:Wk u u') (h':pQ l l'):pQ (u::l) (u'::l')
end
def pQ.refl:∀l,pQ l l
 |[]=>.nil|u::l=>.cons (.refl u) (pQ.refl l)
def Wk.Y9{u a:U}(h:Wk u a):Vx.Y9 a=Vx.Y9 u:=by cases h<;>rfl
def pQ.len:∀{l a:X U},pQ l a->a.length=l.length
 |_,_,.nil=>rfl|_,_,.cons _ h=>by simp[h.len]
def pQ.I5:∀{l a:X U},pQ l a->Vx.I5 a=Vx.I5 l
 |_,_,.nil=>rfl|_,_,.cons h b=>by simp[Vx.I5,h.Y9,b.I5]
mutual
def Wk.rel{x:Cx}{u g:U}{v:I}(h:Wk u g)(a:aD x u v):aD x g v:=by
 cases h with
 |refl=>exact a|nil t=>simp only[aD]at a ⊢;exact .inl ⟨trivial,.inl a⟩
 |full l=>simp only[aD]at a ⊢;obtain a |⟨i,off,c,b,e,d⟩:=a;exact .inl a;exact .inr ⟨i,off,c,b,by simp,d⟩
 |agg h=>simp only[aD]at a ⊢;obtain⟨f,b,e,d,j⟩:=a;exact⟨f,b,pQ.rel h e,by rw[h.len,d],by rw[h.I5,j]⟩
 |a7 h=>simp only[aD]at a ⊢;obtain⟨f,b,e,d⟩:=a;exact⟨f,b,pQ.rel h e,by rw[h.len,d]⟩
def pQ.rel{x:Cx}{l d:X U}{b:X I}(h:pQ l d)(a:c7 x l b):c7 x d b:=by obtain _|⟨h,e⟩:=h;exact a;obtain _|⟨v,b⟩:=b;simp[c7]at a;simp only[c7]at a ⊢;exact⟨Wk.rel h a.1,pQ.rel e a.2⟩
end
def Gh.wk(h:pQ tm tm'):Gh n0 tm Y tm' Y:=fun F x f e d a b=>⟨x,fun m w a=>bJ.refl a,e,d,a,⟨h.rel b.1,by rw[h.len];exact b.2⟩,Ke.refl _ _⟩
def Gh.fz{a:X (Nat×B)}(K:Nat)(b:B)(sz:Nat)(g:gt Y.h K=some b)(f:∀e d,b≠.map e d)(m:k9 K b sz tm=tm')(j:dA K b sz Y.h=a):Gh n0 tm Y tm' ⟨a,Y.nx⟩:=by subst m;subst j;exact Gh.freeze sz g f
def J1(h:∀x,(c x).length=sz)(l:X D)(K s:Nat)(e:TypeId)(st:Nat):fz K (.vec (l.map c).flatten e sz st) s (.vl K st 0 l.length)=.O false (l.map c):=by have b:=FA h l;have a:=qlq h l;simp[fz,beq_eq,b,a]
def qva(n:Nat):∀(a b:X U),aG n a->aG n b->aG n (a++b)
 |[],b,_,h=>h|u::a,b,h,d=>by simp only[aG]at h;simp only[fV,aG];exact⟨h.1,qva n a b h.2 d⟩
def DQ{D:Type}{c:D->X U}(n:Nat)(h:∀x,aG n<|c x):∀l:X D,aG n (l.map c).flatten
 |[]=>by simp[aG]
 |x::l=>by simp only[zQ,Wx];exact qva n _ _ (h x) (DQ n h l)
def RU.lV{T:Tb}{d r:X Oper}{o:Oper}{b:Sg}{K:X U->Sg->Prop}{f:FuncId}{args a:X U}{u:U}(q:c9 d tm o=some true)(m:kM T tm o.op=some (f,args))(n:Gh Y.nx args Y a b)(p:Y.nx<=b.nx)(s:aT C.prog f a b (fun e Y'=>e=u/\Y'=b))
  (h:RU C T d r (eH tm o.dst u) b K):RU C T d (o::r) tm Y K:=RU.call q m (aT.ghost n p s) (fun e Y' ⟨g,j⟩=>by subst g;subst j;exact h)
def uq(c:D->X U)(kk:IntKind)(h:xX l 0 J=some k):nQ l.length l.length none (some<|.int kk J)=some (0,J.toNat,l.length)/\uV (l.map c) 0 J.toNat=k.map c:=by obtain⟨e,a,b,d⟩:=qre h;exact⟨Si a b,by rw[qvi,<-d];rfl⟩
def Ii(c:D->X U)(kk:IntKind)(h:xX l H (l.length:Int)=some k):nQ l.length l.length (some<|.int kk H) none=some (H.toNat,l.length,l.length)/\uV (l.map c) H.toNat l.length=k.map c:=by obtain⟨a,b,e,d⟩:=qre h;exact⟨ur a b,by rw[qvi,<-d];simp⟩
def o4:X (Nat×U)->Nat->A U
 |[],_=>none|(j,u)::l,i=>cond (Nat.beq j i) (some u) (o4 l i)
def Hk(l:X (Nat×U)):Nat->Nat->X U
 |0,_=>[]|n+1,i=>((o4 l i).getD .L2)::Hk l n (i+1)
def fr(n:Nat)(l:X (Nat×U)):X U:=Hk l n 0
def z05(l:X (Nat×U)):∀n i,(Hk l n i).length=n
 |0,_=>rfl|n+1,i=>by simp[Hk,z05 l n]
def z04(l:X (Nat×U)):∀n i k,k<n->(Hk l n i)[k]? = some ((o4 l<|i+k).getD .L2)
 |0,_,_,h=>by omega
 |n+1,i,0,_=>by simp[Hk]
 |n+1,i,k+1,h=>by simp only[Hk,zH];rw[z04 l n (i+1) k ag,show i+1+k=i+(k+1) by omega]
def H4(n:Nat)(l:X (Nat×U)):(fr n l).length=n:=z05 l n 0
variable{k:Nat}
def PC(n:Nat)(l:X (Nat×U))(h:k<n):(fr n l)[k]? = some ((o4 l k).getD .L2):=by have:=z04 l n 0 k h;simpa[fr]using this
variable{n:Nat}{l:X (Nat×U)}
def z86{t:X U}(b:t.length=n)(h:∀k,k<n->t[k]? = some ((o4 l k).getD .L2)):t=fr n l:=by apply me;intro k;by_cases a:k<n;rw[h k a,PC n l a];rw[Xi ag,Xi (by rw[H4];omega)]
def bM(n:Nat)(l:X (Nat×U)):Qo->A U
 |.tmp t=>cond (blt t n) (o4 l t) none|.const v=>jL v
 |.func f=>some (.fn (.func f) [] [])|.global _=>none
variable{o:Qo}{u:U}
def dF(h:bM n l o=some u):c5 (fr n l) o=some u:=by
 cases o with
 |tmp t=>simp only[bM]at h;rcases a:blt t n with _|_;rw[a]at h;cases h;rw[a]at h;simp only[zC]at h;simp only[c5,jT];have b:t<n:=zY a;rw[PC n l b,h];rfl
 |const v=>exact h|func f=>exact h
 |global g=>cases h
def OK(n:Nat)(l:X (Nat×U)):X Qo->A (X U)
 |[]=>some []|x::r=>match bM n l x with
  |some v=>(match OK n l r with
   |some q=>some (v::q)|none=>none)
  |none=>none
def Sd{n:Nat}{l:X (Nat×U)}:∀{b:X Qo}{d:X U},OK n l b=some d->pI (fr n l) b=some d
 |[],d,h=>h|o::b,d,h=>by simp only[OK]at h;rcases a:bM n l o with _|v;simp[a]at h;rcases e:OK n l b with _|q;simp[a,e]at h;simp only[a,e]at h;simp only[pI,dF a,Sd e];exact h
def DH(n:Nat)(l:X (Nat×U)):X (Nat×Qo)->A (X<|Nat×U)
 |[]=>some []|(i,x)::r=>match bM n l x with
  |some v=>(match DH n l r with
   |some q=>some ((i,v)::q)|none=>none)
  |none=>none
def uo{n:Nat}{l:X (Nat×U)}:∀{b:X (Nat×Qo)}{d:X (Nat×U)},DH n l b=some d->B6 (fr n l) b=some d
 |[],d,h=>h|(i,o)::b,d,h=>by simp only[DH]at h;rcases a:bM n l o with _|v;simp[a]at h;rcases e:DH n l b with _|q;simp[a,e]at h;simp only[a,e]at h;simp only[B6,dF a,uo e];exact h
def Y0(l:X (Nat×U)):A Tmp->U->X (Nat×U)
 |none,_=>l|some d,u=>(d,u)::l
def i_(n:Nat):A Tmp->Rl
 |none=>true|some d=>blt d n
def v6{d:A Tmp}(u:U)(b:i_ n d=true):eH (fr n l) d u=fr n (Y0 l d u):=by
 obtain _|d:=d;rfl;have a:d<n:=zY b;refine z86 (by simp[eH,H4]) fun k f=>?_
 simp only[eH,mi,H4,Y0,o4,beq_eq];by_cases e:d=k;subst e;simp[a];simp only[e,LX,yB,zD];exact PC n l f
section
variable{P:Ib}{T:Tb}{a r:X Oper}{o:Oper}{n:Nat}{l:X (Nat×U)}{Y Y':Sg}{K:X U->Sg->Prop}{u:U}{C:PG}{d:Tmp}
def RS.op(g:c9 a (fr n l) o=some true)(h:bH T Y (fr n l) o.op=some (u,Y'))(e:o.dst=some d)(b:blt d n=true)(f:RU C T a r (fr n ((d,u)::l)) Y' K):RU C T a (o::r) (fr n l) Y K :=
 .inl ⟨g,u,Y',h,by rw[e,v6 (d:=some d) u b];exact f⟩
def RS.oP(f:c9 a (fr n l) o=some true)(h:bH T Y (fr n l) o.op=some (u,Y'))(b:o.dst=none)(e:RU C T a r (fr n l) Y' K):RU C T a (o::r) (fr n l) Y K :=
 .inl ⟨f,u,Y',h,by rw[b];exact e⟩
def RS.no(g:c9 a (fr n l) o=some false)(e:o.dst=some d)(b:blt d n=true)(f:RU C T a r (fr n ((d,.a7 [])::l)) Y K):RU C T a (o::r) (fr n l) Y K :=
 .inr (.inr<|.inl ⟨g,by rw[e,v6 (d:=some d) _ b];exact f⟩)
variable{b:Rl}
def RS.kQ{t e j:TypeId}{g h:Qo}{f:X (X U)}(w:c9 a (fr n l) o=some true)(v:o.op=.binOp .eql t g h j)(p:T.G4 t=some (.slice e))(y:bM n l g=some (.O b f))(A:bM n l h=some .J)(q:o.dst=some d)(m:blt d n=true)(s:∀z:Rl,(z=true->f=[])->RU C T a r (fr n ((d,.bool z)::l)) Y K):RU C T a (o::r) (fr n l) Y K :=
 .inr (.inr<|.inr<|.inl ⟨w,t,g,h,j,e,b,f,v,p,dF y,dF A,fun z B=>by rw[q,v6 (d:=some d) _ m];exact s z B⟩)
def RS.step{u:U}{Y':Sg}(q:c9 a (fr n l) o=some true)(p:fI C Y (fr n l) o (fun f e=>f=u/\e=Y'))(j:o.dst=some d)(g:blt d n=true)(m:RU C T a r (fr n ((d,u)::l)) Y' K):RU C T a (o::r) (fr n l) Y K :=
 .inr (.inr<|.inr<|.inr ⟨q,_,p,fun f e h=>by rw[h.1,h.2,j,v6 (d:=some d) _ g];exact m⟩)
def RS.done(h:K (fr n l) Y):RU C T a [] (fr n l) Y K:=h
def RS.call{f:FuncId}{args:X U}(m:c9 a (fr n l) o=some true)(e:kM T (fr n l) o.op=some (f,args))(p:aT C.prog f args Y (fun q Y'=>q=u/\Y'=Y))(h:o.dst=some d)(g:blt d n=true)(j:RU C T a r (fr n ((d,u)::l)) Y K):RU C T a (o::r) (fr n l) Y K :=
 RU.tN m e p (by rw[h,v6 (d:=some d) u g];exact j)
def RS.lV{C:PG}{f:FuncId}{args e:X U}{g:Sg}(t:c9 a (fr n l) o=some true)(h:kM T (fr n l) o.op=some (f,args))(p:Gh Y.nx args Y e g)(s:Y.nx<=g.nx)(v:aT C.prog f e g (fun w Y'=>w=u/\Y'=g)){d:Tmp}(m:o.dst=some d)(j:blt d n=true)(q:RU C T a r (fr n ((d,u)::l)) g K):RU C T a (o::r) (fr n l) Y K :=
 RU.lV t h p s v (by rw[m,v6 (d:=some d) u j];exact q)
variable{j:Nat}{c:Rl}
def D_(f:o.guard=some (j,c))(g:CC a j=some d)(h:bM n l (.tmp d)=some (.bool b))(e:b=c):c9 a (fr n l) o=some true:=by have:=dF h;simp only[c5]at this;simp[c9,f,g,this,e]
def yq(f:o.guard=some (j,c))(g:CC a j=some d)(h:bM n l (.tmp d)=some (.bool b))(e:b= !c):c9 a (fr n l) o=some false:=by have:=dF h;simp only[c5]at this;cases c<;>simp[c9,f,g,this,e]
def MY{q:X U}(e:o.guard=some (j,c))(f:CC a j=some d)(g:bM n l (.tmp d)=some (.a7 q)):c9 a (fr n l) o=some false:=by have:=dF g;simp only[c5]at this;simp[c9,e,f,this]
end
section
variable{P:Ib}{T:Tb}{b r:X Oper}{o:Oper}{n:Nat}{l:X (Nat×U)}{Y Y':Sg}{c:X RK}{K:X RK->X U->Sg->Prop}{u:U}{d:Tmp}
def RD.look(g:c9 b (fr n l) o=some true)(h:bH T Y (fr n l) o.op=some (u,Y))(e:o.dst=some d)(a:blt d n=true)(f:RH P T b r (fr n ((d,u)::l)) Y ((1,⟨fr n l,o,u,false,false,Y,Y⟩)::c) K):RH P T b (o::r) (fr n l) Y c K :=
 .inl ⟨g,u,h,by rw[e,v6 (d:=some d) u a];exact f⟩
def RD.act(g:c9 b (fr n l) o=some true)(h:bH T Y (fr n l) o.op=some (u,Y'))(e:o.dst=some d)(a:blt d n=true)(f:RH P T b r (fr n ((d,u)::l)) Y' ((3,⟨fr n l,o,u,true,true,Y,Y'⟩)::c) K):RH P T b (o::r) (fr n l) Y c K :=
 .inr (.inl ⟨g,u,Y',h,by rw[e,v6 (d:=some d) u a];exact f⟩)
def SQ(f:c9 b (fr n l) o=some true)(h:bH T Y (fr n l) o.op=some (u,Y'))(a:o.dst=none)(e:RH P T b r (fr n l) Y' ((3,⟨fr n l,o,u,true,true,Y,Y'⟩)::c) K):RH P T b (o::r) (fr n l) Y c K :=
 .inr (.inl ⟨f,u,Y',h,by rw[a];exact e⟩)
def RD.no(g:c9 b (fr n l) o=some false)(e:o.dst=some d)(a:blt d n=true)(f:RH P T b r (fr n ((d,.a7 [])::l)) Y ((0,⟨fr n l,o,.a7 [],false,false,Y,Y⟩)::c) K):RH P T b (o::r) (fr n l) Y c K :=
 .inr (.inr<|.inr<|.inr<|.inl ⟨g,by rw[e,v6 (d:=some d) _ a];exact f⟩)
def RD.free{f:FuncId}{args:X U}(j:c9 b (fr n l) o=some true)(a:kM T (fr n l) o.op=some (f,args))(m:∀s,aT P f args s fun p Y'=>p=u/\Y'=s)(g:o.dst=some d)(e:blt d n=true)(h:RH P T b r (fr n ((d,u)::l)) Y ((0,⟨fr n l,o,u,false,false,Y,Y⟩)::c) K):RH P T b (o::r) (fr n l) Y c K :=
 .inr (.inr<|.inr<|.inr<|.inr<|.inl ⟨j,u,.inl ⟨f,args,a,m⟩,by rw[g,v6 (d:=some d) u e];exact h⟩)
def RD.l_(h:c9 b (fr n l) o=some true)(f:uY P T (fr n l) o.op u)(e:o.dst=some d)(a:blt d n=true)(g:RH P T b r (fr n ((d,u)::l)) Y ((0,⟨fr n l,o,u,false,false,Y,Y⟩)::c) K):RH P T b (o::r) (fr n l) Y c K :=
 .inr (.inr<|.inr<|.inr<|.inr<|.inl ⟨h,u,f,by rw[e,v6 (d:=some d) u a];exact g⟩)
def fI.fz{C:PG}(B:j0 C.prog T){u1:U}{s1 Y':Sg}(h:bH T Y (fr n l) o.op=some (u1,s1))(L:Gh s1.nx [u1] s1 [u] Y')(N:s1.nx<=Y'.nx)(I:o.dst=some d)(E:blt d n=true):fI C Y (fr n l) o (fun R f=>R=u/\f=Y'):=
 fun F x Z m w a next Q z st V M W S=>v7 (P8 h) (St.tE B st o (by rw[z];exact h) I (by rw[H4];rwa [tp]at E) L N fun y s g e p t q j v A O=>M u y s g e p ⟨rfl,t⟩ q j v A O)
def RD.call{f:FuncId}{args:X U}(j:c9 b (fr n l) o=some true)(a:kM T (fr n l) o.op=some (f,args))(m:aT P f args Y (fun p Y'=>p=u/\Y'=Y)){d:Tmp}(g:o.dst=some d)(e:blt d n=true)(h:RH P T b r (fr n ((d,u)::l)) Y ((2,⟨fr n l,o,u,true,false,Y,Y⟩)::c) K):RH P T b (o::r) (fr n l) Y c K :=
 RH.call j a m (by rw[g,v6 (d:=some d) u e];exact h)
def bC(h:K c (fr n l) Y):RH P T b [] (fr n l) Y c K:=h
end
def pV(l:X (Nat×U)):X (Nat×U)->Prop
 |[]=>True|(i,u)::r=>o4 l i=some u/\pV l r
def qt2{l:X (Nat×U)}:∀{r:X (Nat×U)},pV l r->∀i u,o4 r i=some u->o4 l i=some u
 |[],_,i,u,h=>by cases h
 |(j,v)::r,a,i,u,h=>by simp only[pV]at a;simp only[o4,beq_eq]at h;by_cases e:j=i;subst e;simp at h;subst h;exact a.1;simp only[e,yB,zD]at h;exact qt2 a.2 i u h
def qut{x:Cx}{a:X I}(e:a.length=n)(h:∀i u,i<n->o4 l i=some u->∃v,a[i]? = some v/\aD x u v):aZ x (fr n l) a:=by
 refine aZ.mk' (by rw[H4,e]) fun i u J=>?_;have d:i<n:=by have:=(zG.1 J).1;rwa [H4]at this
 rw[PC n l d]at J;cases b:o4 l i with
 |none=>rw[b]at J;simp at J;subst J;exact⟨a[i],hF ag,by simp[aD]⟩|some w=>rw[b]at J;simp at J;subst J;exact h i w d b
def qsr{x:Cx}{a:X I}(b:aZ x (fr n l) a){i:Nat}(J:i<n)(h:o4 l i=some u):∃v,a[i]? = some v/\aD x u v :=
 b.get (by rw[PC n l J,h];rfl)
variable{n0:Nat}{l':X (Nat×U)}{Y:Sg}
def Gh.sub(h:pV l l'):Gh n0 (fr n l) Y (fr n l') Y:=fun F x g f e a b=>
 ⟨x,fun m w a=>bJ.refl a,f,e,a,qut (by rw[<-b.2,H4]) fun i u J d=>qsr b J<|qt2 h i u d,Ke.refl _ _⟩
def QK:Nat->X U->X (Nat×U)
 |_,[]=>[]|i,u::l=>(i,u)::QK (i+1) l
def qs1:∀(l:X U)(i k:Nat)(u:U),o4 (QK i l) k=some u->i<=k/\l[k-i]? = some u
 |[],i,k,u,h=>by cases h
 |v::l,i,k,u,h=>by simp only[QK,o4,beq_eq]at h;by_cases e:i=k;subst e;simp at h;subst h;simp;simp only[e,yB,zD]at h;obtain⟨b,a⟩:=qs1 l (i+1) k u h;refine⟨by omega,?_⟩;rw[show k-i=(k-(i+1))+1 by omega];simpa using a
def qws:∀(n:Nat)(l:X U)(k:Nat)(u:U),l[k]? = some u->(DE n l)[k]? = some u
 |0,l,k,u,h=>h|n+1,[],k,u,h=>by simp at h
 |n+1,v::l,0,u,h=>by simpa[DE]using h
 |n+1,v::l,k+1,u,h=>by simp only[DE,zH]at*;exact qws n l k u h
def qpu:∀(n:Nat)(l:X U),l.length<=n->(DE n l).length=n
 |0,l,h=>by simp[DE];exact X0 ag
 |n+1,[],h=>by simp[DE,qpu n [] ca]
 |n+1,v::l,h=>by simp[DE,qpu n l<|by simpa using h]
def OF{args:X U}(h:args.length<=n):Gh n0 (DE n args) Y (fr n<|QK 0 args) Y:=fun F x j g f a b=>
 ⟨x,fun m w a=>bJ.refl a,g,f,a,qut (by rw[<-b.2,qpu n args h]) (fun i u J e=>by obtain⟨_,d⟩:=qs1 args 0 i u e;exact b.get<|qws n args i u<|by simpa using d),Ke.refl _ _⟩
def ej(n:Nat):X (Nat×U)->Prop
 |[]=>True|(_,u)::l=>aS n u/\ej n l
def qr2{n:Nat}:∀{l:X (Nat×U)},ej n l->∀i u,o4 l i=some u->aS n u
 |[],_,i,u,h=>by cases h
 |(j,v)::l,a,i,u,h=>by simp only[ej]at a;simp only[o4,beq_eq]at h;by_cases e:j=i;subst e;simp at h;subst h;exact a.1;simp only[e,yB,zD]at h;exact qr2 a.2 i u h
def Sy{a:Nat}(h:ej a l):aG a (fr n l):=by
 rw[DS];intro u e;obtain⟨i,J,rfl⟩:=HO e;have b:i<n:=by rwa [H4]at J
 have:=PC n l b;rw[hF J]at this;simp only[zA]at this;rw[this];rcases d:o4 l i with _|w;simp[aS];exact qr2 h i w d
def Gh.DU{a:Nat}{Y':Sg}(j:pV l l')(g:(⟨Vx.cut a Y.h,a⟩:Sg)=Y')(b:n0<=a)(d:a<=Y.nx)(e:ej a l')(f:GU a Y'.h):Gh n0 (fr n l) Y (fr n l') Y':=by subst g;exact(Gh.sub j).trans (Gh.cut b d (Sy e) f)
def xQ{Y':Sg}(b:pV l l')(a:Y=Y'):Gh n0 (fr n l) Y (fr n l') Y':=by subst a;exact Gh.sub b
def h_(K:Nat)(b:B)(sz:Nat):X (Nat×U)->X (Nat×U)
 |[]=>[]|(i,u)::l=>(i,fz K b sz u)::h_ K b sz l
def qw8(K:Nat)(b:B)(sz:Nat):∀(l:X (Nat×U))(i:Nat),o4 (h_ K b sz l) i=(o4 l i).map (fz K b sz)
 |[],i=>rfl|(j,u)::l,i=>by simp only[h_,o4,beq_eq,qw8 K b sz l i];by_cases e:j=i<;>simp[e]
def Hi(K:Nat)(b:B)(sz n:Nat)(l:X (Nat×U)):k9 K b sz (fr n l)=fr n (h_ K b sz l):=by
 refine z86 (by rw[Bc,H4]) fun k a=>?_;have hm:∀(t:X U)(k:Nat),(k9 K b sz t)[k]? = (t[k]?).map (fz K b sz):=by
  intro t;induction t with
  |nil=>intro k;simp[k9]|cons u t d=>intro k;cases k<;>simp[k9,d]
 rw[hm,PC n l a,qw8];obtain _|w:=o4 l k;simp[U8];rfl
def Gh.h_{h':X (Nat×B)}(K:Nat)(b:B)(sz:Nat)(f:gt Y.h K=some b)(e:∀d a,b≠.map d a)(j:Vx.h_ K b sz l=l')(g:dA K b sz Y.h=h'):Gh n0 (fr n l) Y (fr n l') ⟨h',Y.nx⟩:=by subst j;subst g;rw[<-Hi];exact Gh.freeze sz f e
inductive Pk:List (Nat×U)->List (Nat×U)->Prop
 |nil:Pk [] []
 |cons {i:Nat} {u u':U} {l l':List (Nat×U)} (h:Wk u u') (h':Pk l l'):Pk ((i,u)::l) ((i,u')::l')
def Pk.look:∀{l l':X (Nat×U)},Pk l l'->∀i b,o4 l' i=some b->∃u,o4 l i=some u/\Wk u b
 |_,_,.nil,i,b,h=>by cases h
 |_,_,.cons (i:=j) h d,i,b,a=>by simp only[o4,beq_eq]at a ⊢;by_cases e:j=i;subst e;simp at a;subst a;exact⟨_,by simp,h⟩;simp only[e,yB,zD]at a ⊢;exact d.look i b a
def Gh.sC(h:Pk l l'):Gh n0 (fr n l) Y (fr n l') Y:=fun F x r q p a b=>
 ⟨x,fun m w a=>bJ.refl a,q,p,a,qut (by rw[<-b.2,H4]) (fun i u J j=>by obtain⟨w,d,e⟩:=h.look i u j;obtain⟨v,f,g⟩:=qsr b J d;exact⟨v,f,e.rel g⟩),Ke.refl _ _⟩
def Gh.uI(i:Nat)(e:TypeId)(sz:Nat)(b:0<sz)(f:n0<=Y.nx)(J:bM n l (.tmp i)=some .J)(j:i_ n (some i)=true):Gh n0 (fr n l) Y (fr n ((i,.vl Y.nx 0 0 0)::l)) (cc Y<|.vec [] e sz 0):=by
 have g:=dF J;have h:=B_ (n0:=n0) (Y:=Y) i e sz b f (tm:=fr n l) g;have a:=v6 (n:=n) (l:=l) (d:=some i) (.vl Y.nx 0 0 0) j;simp only[eH,Y0]at a
 rwa [a]at h
variable{c:Qo}{t:Rl}
def eD{C:PG}{Q:Exit->X U->Sg->Prop}{p q:Code}(d:bM n l c=some (.bool t))(a:t=true->I6 C n0 p (fr n l) Y Q)(b:t=false->I6 C n0 q (fr n l) Y Q):I6 C n0 (.cond c p q) (fr n l) Y Q:=I6.cond (dF d) a b
variable{T:Tb}{us:X U}
def eL{t:Tmp}{a:X ResultVar}(h:bM n l (.tmp t)=some u)(b:lB T Y (fr n l) a=some us):lB T Y (fr n l) (.tmp t::a)=some (u::us):=by have:=dF h;simp only[c5]at this;simp[lB,this,b]
def eB:lB T Y (fr n l) []=some []:=rfl
variable{t:TypeId}
def uX{a:Tmp}{d:X ResultVar}(h:bH T Y (fr n l) (.load t<|.tmp a)=some (u,Y))(b:lB T Y (fr n l) d=some us):lB T Y (fr n l) (.cell a t::d)=some (u::us):=by
 have:qR T Y (fr n l) (.load t<|.tmp a)=some u:=by have f:iQ T Y (fr n l) (.load t<|.tmp a)=none:=rfl;have e:qO T Y (fr n l) (.load t<|.tmp a)=none:=rfl;unfold bH at h;rw[f]at h;simp only at h;rcases b:qR T Y (fr n l) (.load t<|.tmp a)with _|v;rw[b,e]at h;cases h;rw[b]at h;simp at h;rw[h]
 simp[lB,this,b]
section
variable{T:Tb}{Y Y':Sg}{n:Nat}{l:X (Nat×U)}{u v w:U}
def vV{op:Op}(h:iQ T Y (fr n l) op=some u):bH T Y (fr n l) op=some (u,Y):=by simp[bH,h]
def OJ{op:Op}(a:iQ T Y (fr n l) op=none)(h:qR T Y (fr n l) op=some u):bH T Y (fr n l) op=some (u,Y):=by simp[bH,h,a]
variable{q:U×Sg}
def I1{op:Op}(a:iQ T Y (fr n l) op=none)(b:qR T Y (fr n l) op=none)(h:qO T Y (fr n l) op=some q):bH T Y (fr n l) op=some q:=by simp[bH,h,a,b]
variable{x:Qo}
def kN(h:bM n l x=some u):bH T Y (fr n l) (.move x)=some (u,Y):=vV (dF h)
def qsb(h:bM n l x=some u):bH T Y (fr n l) (.assign x)=some (u,Y):=vV (dF h)
variable{a:Qo}
def qwj{b:Qo}{t:Rl}(d:bM n l c=some (.bool t))(e:t=true)(h:bM n l a=some u):bH T Y (fr n l) (.pick c a b)=some (u,Y):=vV (by subst e;simp only[iQ,dF d];exact dF h)
def qwi{b:Qo}{t:Rl}(d:bM n l c=some (.bool t))(e:t=false)(h:bM n l b=some u):bH T Y (fr n l) (.pick c a b)=some (u,Y):=vV (by subst e;simp only[iQ,dF d];exact dF h)
variable{off:Nat}
def hZ{st:Nat}(h:bM n l x=some (.ptr k st off))(b:live Y k st=true):bH T Y (fr n l) (.nilCheck x)=some (.ptr k st off,Y):=vV (by simp only[iQ,dF h,b,zC])
def Bg{b:Ie (Nat×Qo)}{qs:X (Nat×U)}(h:DH n l b.toList=some qs)(d:Ll T t qs=some u):bH T Y (fr n l) (.build t b)=some (u,Y):=vV (by simp only[iQ,uo h,d])
variable{j:TypeId}{y:Qo}
def e?{op:BinOp}(b:bM n l x=some v)(d:bM n l y=some w)(h:g2 (u6 T op t) v w=some u):bH T Y (fr n l) (.binOp op t x y j)=some (u,Y):=vV (by simp only[iQ,dF b,dF d,M3,h])
def Dg{op:BinOp}(d:bM n l x=some v)(e:bM n l y=some w)(b:g2 (u6 T op t) v w=none)(h:Lc T Y op t v w=some u):bH T Y (fr n l) (.binOp op t x y j)=some (u,Y):=vV (by simp only[iQ,dF d,dF e,M3,b,h])
variable{k:IntKind}{r:I}
def wY{op:BinOp}{d:IntKind}{a b:Int}(f:bM n l x=some (.int k a))(g:bM n l y=some (.int d b))(h:lD op k a d b=some r)(e:jL r=some u):bH T Y (fr n l) (.binOp op t x y j)=some (u,Y):=e? f g (by simp only[g2,cK,u6,h,e])
def GZ{op:BinOp}{a b:X RX}(e:bM n l x=some (.str a))(f:bM n l y=some (.str b))(h:IL op ⟨⟨a⟩⟩ ⟨⟨b⟩⟩=some r)(d:jL r=some u):bH T Y (fr n l) (.binOp op t x y j)=some (u,Y):=e? e f (by simp only[g2,cK,u6,h,d])
def VC{op:UnOp}(e:bM n l x=some v)(h:cK v=some (r)){q:I}(d:T5 op r=some q)(b:jL q=some u):bH T Y (fr n l) (.unOp op t x)=some (u,Y):=vV (by simp only[iQ,dF e,g1,h,d,b])
def sj{s d:TypeId}{q:I}(f:bM n l x=some v)(h:cK v=some r)(e:P6 T s d r=some q)(b:jL q=some u):bH T Y (fr n l) (.convert s d x)=some (u,Y):=vV (by simp only[iQ,dF f,g1,h,e,b])
def La{f:Fn}{first cap:Ie Qo}{a b:X U}(d:OK n l first.toList=some a)(e:OK n l cap.toList=some b):bH T Y (fr n l) (.makeFunc f first cap)=some (.fn f a b,Y):=vV (by simp only[iQ,Sd d,Sd e])
variable{k:Nat}
def nC{f:Nat}{d:Ie Field}{b:Field}{s st:Nat}(g:T.G4 t=some (.struct d))(h:nth d.toList f=some b)(z:cC T b.type=some (s+1))(A:bM n l x=some (.ptr k st off))(m:live Y k st=true){e:Nat}(p:off+b.offset=e):bH T Y (fr n l) (.fieldAddr t x f)=some (.ptr k st e,Y):=vV (by subst p;simp only[iQ,dF A,Tn,g,h,z,m,zC])
variable{q:X U}
def J_{f:Nat}{d:Ie Field}{b:Field}{s:Nat}(g:T.G4 t=some (.struct d))(h:nth d.toList f=some b)(p:cC T b.type=some (s+1))(z:bM n l x=some (.b4 q)){e:X U}(m:q.drop b.offset=e):bH T Y (fr n l) (.fieldAddr t x f)=some (.b4 e,Y):=vV (by subst m;simp only[iQ,dF z,Tn,g,h,p])
def z8q{i:Nat}(b:bM n l x=some (.a7 q))(h:nth q i=some u):bH T Y (fr n l) (.extract x i)=some (u,Y):=vV (by simp only[iQ,dF b,pz,h])
def eM{i:Qo}(b:bM n l x=some v)(J:bM n l i=some w)(h:DP T Y t v w=some u):bH T Y (fr n l) (.indexAddr t x i)=some (u,Y):=vV (by simp only[iQ,dF b,dF J,h])
variable{D:Type}{e:TypeId}{sz:Nat}{b:Rl}{xs:X D}{i:Int}
def Lg(c:D->X U){k:IntKind}{x:D}(m:T.G4 t=some (.slice e))(s:cC T e=some sz)(h:∀x,(c x).length=sz)(z:aC xs i=some x)(p:c x=q):DP T Y t (.O b<|xs.map c) (.int k i)=some (.b4 q):=by
 subst p;obtain⟨d,f,g⟩:=z0n c z;have:Nat.beq (c x).length sz=true:=by simp[beq_eq,h]
 simp only[DP,m,s,yA,d,f,lr,It,g,this,zC]
variable{e':TypeId}{K:Nat}
def jS(c:D->X U){st:Nat}{k:IntKind}{x:D}(s:T.G4 t=some (.slice e))(z:cC T e=some sz)(B:0<sz)(p:∀x,(c x).length=sz)(A:oR Y K st=some ((xs.map c).flatten,e',sz))(d:aC xs i=some x):DP T Y t (.vl K st 0 xs.length) (.int k i)=some (.ptr K st<|0*sz+i.toNat*sz):=by
 obtain⟨g,h,E⟩:=Me d;have f:=YH p B d;have m:Nat.beq sz sz=true:=by simp[beq_eq]
 simp only[DP,s,z,A,m,zC,g,h,dG,f,gP,lr,It]
variable{d:TypeDesc}
def Lf(c:D->X U){st:Nat}{x:D}(p:T.G4 t=some d)(f:rH d=true)(A:cC T t=some sz)(m:∀x,(c x).length=sz)(s:bM n l o=some (.ptr K st<|0*sz+i.toNat*sz))(B:gt Y.h K=some (.vec (xs.map c).flatten e' sz st))(E:aC xs i=some x)(z:c x=q):bH T Y (fr n l) (.load t o)=some (.agg q,Y):=by
 subst z;refine OJ rfl ?_;have g:Nat.beq st st=true:=by simp[beq_eq]
 simp only[qR,dF s,cellsOf,B,g,zC,GX,p,f,A,z43 m E]
def CF(c:D->X U){st:Nat}{x:D}(f:D->U)(s:T.G4 t=some d)(m:rH d=false)(g:∀x,c x=[f x])(z:bM n l o=some (.ptr K st<|0*1+i.toNat*1))(A:gt Y.h K=some (.vec (xs.map c).flatten e' 1 st))(B:aC xs i=some x):bH T Y (fr n l) (.load t o)=some (f x,Y):=by
 refine OJ rfl ?_;have p:Nat.beq st st=true:=by simp[beq_eq]
 simp only[qR,dF z,cellsOf,A,p,zC,GX,s,m,zD,zbl (fun x=>by rw[g];rfl) g B]
def F6{H J:A Qo}{a b:A I}(m:bM n l x=some v)(f:CD (fr n l) H=some a)(g:CD (fr n l) J=some b)(h:TR T Y t v a b=some u):bH T Y (fr n l) (.slice t x H J none)=some (u,Y):=vV (by simp only[iQ,dF m,f,g,h])
def GT:CD (fr n l) none=some none:=rfl
def GS{k:IntKind}{z:Int}(h:bM n l o=some (.int k z)):CD (fr n l) (some o)=some (some<|.int k z):=by simp only[CD,dF h]
def Rw(c:D->X U){a h m:Nat}{f:X D}{H J:A I}(s:T.G4 t=some (.slice e))(z:cC T e=some sz)(p:∀x,(c x).length=sz)(g:nQ xs.length xs.length H J=some (a,h,m))(B:uV (xs.map c) a h=f.map c):TR T Y t (.O b<|xs.map c) H J=some (.O (cond b (Nat.beq h xs.length) false)<|f.map c):=by simp only[TR,s,z,qz2 p xs,It,yA,g,B]
variable{args:Ie Qo}{ts:Ie TypeId}
def H3(f:args.toList=[x]){q:X TypeId}(g:ts.toList=t::q)(m:bM n l x=some v)(h:wP T Y t v=some u):bH T Y (fr n l) (.call { callee:=.builtin .len,args:=args,argTypes:=ts })=some (u,Y):=vV (by simp only[iQ,f,g,pI,dF m,h])
def z0t(c:D->X U)(f:T.G4 t=some (.slice e)):wP T Y t (.O b<|xs.map c)=some (.int .i64 xs.length):=by simp[wP,f]
def Di{xs:X Qo}{a:I}{b:X I}(m:args.toList=x::xs)(z:bM n l x=some v)(p:OK n l xs=some us)(f:cK v=some a)(g:eE us=some b)(h:B0 TP a b=some r)(s:jL r=some u):bH T Y (fr n l) (.call { callee:=.builtin .min,args:=args,argTypes:=ts })=some (u,Y):=vV (by simp only[iQ,m,pI,dF z,Sd p,f,g,h,s])
variable{cs:X U}
def vX{st:Nat}(m:T.G4 t=some d)(f:rH d=true)(p:cC T t=some sz)(s:bM n l x=some (.ptr k st off))(g:cellsOf Y k st=some q)(h:lW q off sz=some cs):bH T Y (fr n l) (.load t x)=some (.agg cs,Y):=OJ rfl (by simp only[qR,dF s,g,GX,m,f,p,h,zC])
def uA{st:Nat}(m:T.G4 t=some d)(f:rH d=false)(p:bM n l x=some (.ptr k st off))(g:cellsOf Y k st=some q)(h:nth q off=some u):bH T Y (fr n l) (.load t x)=some (u,Y):=OJ rfl (by simp only[qR,dF p,g,GX,m,f,h,zD])
def z8j(g:T.G4 t=some d)(f:rH d=true)(m:cC T t=some sz)(p:bM n l x=some (.b4 q))(h:lW q 0 sz=some cs):bH T Y (fr n l) (.load t x)=some (.agg cs,Y):=OJ rfl (by simp only[qR,dF p,GX,g,f,m,h,zC])
def Sb(g:T.G4 t=some d)(f:rH d=false)(m:bM n l x=some (.b4 q))(h:nth q 0=some u):bH T Y (fr n l) (.load t x)=some (u,Y):=OJ rfl (by simp only[qR,dF m,GX,g,f,h,zD])
def Dj(g:bM n l x=some v)(h:xB v=some cs)(f:I5 cs=true):bH T Y (fr n l) (.box e x)=some (.ptr Y.nx 0 0,cc Y<|.row cs e):=I1 rfl rfl (by simp only[qO,dF g,h,f,zC])
variable{z:I}
def z6d{a b:Nat}{f:X U}(J:T.inf e=some (a,b,z))(h:qN z.cells.toList=some f)(g:I5 f=true):bH T Y (fr n l) (.alloc e)=some (.ptr Y.nx 0 0,cc Y<|.row f e):=I1 rfl rfl (by simp only[qO,J,h,g,zC])
def z6g{st:Nat}{q':X U}(B:cC T t=some sz)(g:bM n l a=some (.ptr k st off))(E:bM n l x=some v)(h:xB v=some cs)(s:Nat.beq cs.length sz=true)(p:I5 cs=true)(m:cellsOf Y k st=some q)(A:rV q off (GJ Y k cs)=some q')(f:P4 Y k q'=some Y'):bH T Y (fr n l) (.store t a x)=some (.L2,Y'):=I1 rfl rfl (by simp only[qO,dF g,dF E,Am,B,h,s,p,zC,m,A,f])
def Xe{f:Ie (Nat×Qo)}{g:X (Nat×U)}{q:U×Sg}(h:DH n l f.toList=some g)(m:Tu T Y t k g=some q):bH T Y (fr n l) (.buildSlice t k f)=some q:=I1 rfl rfl (by simp only[qO,uo h,m])
def Xd{q:U×Sg}(g:bM n l x=some v)(h:bM n l y=some w)(f:Pp T Y t v w=some q):bH T Y (fr n l) (.makeSlice t x y)=some q:=I1 rfl rfl (by simp only[qO,dF g,dF h,f])
variable{d:TypeId}
def rG{q:U×Sg}(f:args.toList=[x,y])(g:ts.toList=[t,d])(m:bM n l x=some v)(p:bM n l y=some w)(h:DO T Y t d v w=some q):bH T Y (fr n l) (.call { callee:=.builtin .append,args:=args,argTypes:=ts })=some q:=I1 rfl rfl (by simp only[qO,f,g,pI,dF m,dF p,gi,h])
def tJ{c:Call}{f:Qo}{g:FuncId}{fn:Func}{first cap h:X U}(s:c.callee=.value f)(B:bM n l f=some (.fn (.func g) first cap))(E:T.fn g=some fn)(p:fn.body.isSome=true)(m:OK n l c.args.toList=some h){args:X U}(A:first++h++cap=args):kM T (fr n l) (.call c)=some (g,args):=by subst A;simp only[kM,s,dF B,E,p,zC,Sd m]
variable{f:TypeId}{g:Nat}
def Yy(c:D->X U)(h:X D)(p:T.G4 t=some (.slice e))(m:T.G4 d=some (.slice f))(J:T.inf e=some (sz+1,g,z))(B:Nat.beq z.cells.toList.length (sz+1)=true)(A:wM Y (sz+1) w=some (h.length,(h.map c).flatten))(s:h.length*g<=140737488355328/\h.length<=140737488355328):DO T Y t d .J w=some (.vl Y.nx 0 0 h.length,cc Y<|.vec (h.map c).flatten e (sz+1) 0):=by simp only[DO,p,m,J,B,zC,A,s,lr,It]
def ss(c:D->X U)(h:X D){a:Nat}(p:T.G4 t=some (.slice e))(m:T.G4 d=some (.slice f))(J:T.inf e=some (sz+1,g,z))(E:Nat.beq z.cells.toList.length (sz+1)=true)(s:rowOf Y a=some q)(F:ble off q.length=true)(B:wM Y (sz+1) w=some (h.length,(h.map c).flatten))(A:h.length*g<=140737488355328/\h.length<=140737488355328):DO T Y t d (.sl a off 0 0) w=some (.vl Y.nx 0 0 h.length,cc Y<|.vec (h.map c).flatten e (sz+1) 0):=by simp only[DO,p,m,J,E,zC,B,s,A,lr,It]
def CE(c:D->X U)(m:X D){a st:Nat}(L:T.G4 t=some (.slice e))(F:T.G4 d=some (.slice f))(J:T.inf e=some (sz+1,g,z))(R:Nat.beq z.cells.toList.length (sz+1)=true)(p:∀x,(c x).length=sz+1)(M:gt Y.h a=some (.vec (xs.map c).flatten e (sz+1) st))(P:wM Y (sz+1) w=some (m.length,(m.map c).flatten))(s:(xs.length+m.length)*g<=140737488355328/\xs.length+m.length<=140737488355328):DO T Y t d (.vl a st 0 xs.length) w=some (.vl a (st+1) 0 (xs++m).length,⟨ug Y.h a<|.vec ((xs++m).map c).flatten e (sz+1) (st+1),Y.nx⟩):=by
 have A:Nat.beq st st=true:=by simp[beq_eq]
 have B:Nat.beq e e=true:=by simp[beq_eq]
 have E:Nat.beq (sz+1) (sz+1)=true:=by simp[beq_eq]
 have O:=zb5 p xs;have N:=FA p xs;rw[qvq,zU];simp only[DO,L,F,J,R,zC,P,M,A,B,E,O,N,s.1,s.2,di,X1,or_true,It]
def z4s(c:D->X U)(h:X D)(p:T.G4 t=some (.slice e))(m:T.G4 d=some (.slice f))(J:T.inf e=some (sz+1,g,z))(E:Nat.beq z.cells.toList.length (sz+1)=true)(B:wM Y (sz+1) w=some (h.length,(h.map c).flatten))(s:0<h.length)(A:h.length*g<=140737488355328/\h.length<=140737488355328):DO T Y t d (.O true []) w=some (.vl Y.nx 0 0 ([]++h).length,cc Y<|.vec (([]++h).map c).flatten e (sz+1) 0):=by simp only[DO,p,m,J,E,zC,B,A,s,lr,It,eY]
def Lq(c:D->X U)(h:∀x,(c x).length=sz):wM Y sz (.O b<|xs.map c)=some (xs.length,(xs.map c).flatten):=by simp only[wM,qz2 h xs,It,yA]
def DM(c:D->X U)(h:X D)(s:rowOf Y K=some q)(A:lW q off (k*sz)=some cs)(p:k=h.length)(m:xR cs=(h.map c).flatten):wM Y sz (.sl K off k k)=some (h.length,(h.map c).flatten):=by subst p;simp only[wM,s,A,m]
def bG{a b:Nat}(h:T.inf t=some (a,b,z)):cC T t=some a:=by simp only[cC,h]
def vo{st:Nat}(h:gt Y.h K=some (.vec q e sz st)):oR Y K st=some (q,e,sz):=by
 have b:Nat.beq st st=true:=by simp[beq_eq]
 simp only[oR,h,b,zC]
def uh{st m:Nat}(p:T.G4 t=some (.slice e))(h:gt Y.h K=some (.vec q e' sz st)):wP T Y t (.vl K st 0 m)=some (.int .i64 m):=by
 have b:Nat.beq st st=true:=by simp[beq_eq]
 simp only[wP,p,live,h,B.st,b,zC]
end
def Ee(k:IntKind)(a b:Int):lD .add k a k b=some (.int k<|k.wrap<|a+b):=by simp[lD]
def z8g(k:IntKind)(a b:Int):lD .sub k a k b=some (.int k<|k.wrap<|a-b):=by simp[lD]
def Dy(k:IntKind)(a b:Int):lD .mul k a k b=some (.int k<|k.wrap<|a*b):=by simp[lD]
def uj(k:IntKind){a b:Int}(h:¬ b=0):lD .quo k a k b=some (.int k<|k.wrap<|a.tdiv b):=by simp[lD,h]
def z8e(k:IntKind){a b:Int}(h:¬ b=0):lD .rem k a k b=some (.int k<|a.tmod b):=by simp[lD,h]
def Ed(k:IntKind)(a b:Int):lD .eql k a k b=some (.bool<|a==b):=by simp[lD]
def Dx(k:IntKind)(a b:Int):lD .neq k a k b=some (.bool<|a != b):=by simp[lD]
def Dz(k:IntKind)(a b:Int):lD .lss k a k b=some (.bool<|decide (a<b)):=by simp[lD]
def Ea(k:IntKind)(a b:Int):lD .leq k a k b=some (.bool<|decide (a<=b)):=by simp[lD]
def Eb(k:IntKind)(a b:Int):lD .gtr k a k b=some (.bool<|decide (a>b)):=by simp[lD]
def Ec(k:IntKind)(a b:Int):lD .geq k a k b=some (.bool<|decide (a>=b)):=by simp[lD]
def Gh.row{n0:Nat}{tm:X U}{Y:Sg}{K:Nat}{q j:X U}{e:TypeId}(z:gt Y.h K=some (.row q e))(hk:I5 j=true)(iF:∀x P,x.Y=Y->jB x->aZ x q P->aZ x j P):Gh n0 tm Y tm ⟨ug Y.h K<|.row j e,Y.nx⟩:=fun F x tv hx f L M=>by
 subst hx
 let y:Cx:=⟨x.Z,⟨ug x.Y.h K<|.row j e,x.Y.nx⟩,x.s⟩
 have B:∀k,gt y.Y.h k=if K=k then some (.row j e)else gt x.Y.h k:=fun k=>by show gt (ug x.Y.h K<|.row j e) k=_;rw[bT,z];rfl
 have I:Mo x.Y.nx x y:=⟨fun k _ g=>⟨g,fun b a=>by rw[B]at a;by_cases d:K=k;subst d;simp only[It,zA]at a;subst a;exact⟨_,z,zF _,fun _=>⟨rfl,fun l e sz st h=>by cases h⟩⟩;simp only[d,LX]at a;exact⟨b,a,zF _,fun _=>⟨rfl,fun l e sz st h=>⟨l,h⟩⟩⟩⟩,fun _ _ _ h=>h⟩;refine⟨y,fun m w L=>bJ.refl L,rfl,⟨fun k b a=>?_,fun k N b R i a S=>?_,f.bd⟩,fun i b O=>?_,I.ke.E M.L5 M,fun u v a f=>I.ke u v (aD.L5 u v f) f⟩;rw[B]at a;by_cases d:K=k;subst d;simp only[It,zA]at a;subst a;obtain⟨p,k1,i,l',W,e2,e3⟩:=f.ok K _ z;have:=iF x l' rfl f e3;exact⟨p,hk,i,l',W,e2,I.ke.E this.L5 this⟩;simp only[d,LX]at a;obtain⟨p,g⟩:=f.ok k b a;exact⟨p,g.mono I rfl fun _ _ _ h=>h⟩;have A:∀k b,gt y.Y.h k=some b->∃c,gt x.Y.h k=some c:=fun k b a=>by rw[B]at a;by_cases d:K=k;subst d;exact⟨_,z⟩;simp only[d,LX]at a;exact⟨b,a⟩
 obtain⟨c,r⟩:=A k b a;obtain⟨V,pP⟩:=A N R S;exact f.inj k N c V i r pP;obtain⟨p,g⟩:=L i b O;refine⟨p,fun k c r=>?_⟩;rw[B]at r;by_cases d:K=k;subst d;exact g _ _ z;simp only[d,LX]at r;exact g k c r
def Gh.fresh{n0:Nat}{tm:X U}{Y:Sg}(e:TypeId)(sz:Nat)(f:0<sz)(g:n0<=Y.nx):Gh n0 tm Y tm (cc Y<|.vec [] e sz 0):=fun F x q p j b d=>by
 subst p;have a:=gk j e sz f;exact⟨⟨mO x.Z x.Y.nx none,cc x.Y<|.vec [] e sz 0,x.s⟩,fun m w b=>bJ.refl b,rfl,a.h,a.fr F b,a.mo.ke.E d.L5 d,a.mo.ke.le g⟩
def AG{n0:Nat}{tm:X U}{Y:Sg}(K i:Nat){q:X U}{A:TypeId}(e:TypeId)(sz:Nat)(dV:0<sz)(h0:n0<=Y.nx)(V:gt Y.h K=some (.row q A))(J:nth q i=some .J):Gh n0 tm Y tm ⟨ug (cc Y<|.vec [] e sz 0).h K (.row (q.set i<|.vl Y.nx 0 0 0) A),Y.nx+1⟩:=fun F x tv hx p R he=>by
 subst hx;have hK:=(p.ok K _ V).1;obtain⟨_,k1,_⟩:=p.ok K _ V;have f:=gk p e sz dV;rw[jT]at J
 let y:Cx:=⟨mO x.Z x.Y.nx none,cc x.Y<|.vec [] e sz 0,x.s⟩
 have r:gt y.Y.h K=some (.row q A):=by show gt ((x.Y.nx,_)::x.Y.h) K=_;rw[aV,iy ag,V]
 let z:Cx:=⟨y.Z,⟨ug y.Y.h K<|.row (q.set i<|.vl x.Y.nx 0 0 0) A,y.Y.nx⟩,y.s⟩
 have N:∀k,gt z.Y.h k=if K=k then some (.row (q.set i<|.vl x.Y.nx 0 0 0) A)else gt y.Y.h k:=fun k=>by show gt (ug y.Y.h K _) k=_;rw[bT,r];rfl
 have P:Mo y.Y.nx y z:=⟨fun k _ g=>⟨g,fun b a=>by rw[N]at a;by_cases d:K=k;subst d;simp only[It,zA]at a;subst a;exact⟨_,r,zF _,fun _=>⟨rfl,fun l e sz st h=>by cases h⟩⟩;simp only[d,LX]at a;exact⟨b,a,zF _,fun _=>⟨rfl,fun l e sz st h=>⟨l,h⟩⟩⟩⟩,fun _ _ _ h=>h⟩;have L:=f.mo.ke.E he.L5 he;have S:=f.fr F R;refine⟨z,fun m w R=>bJ.refl R,rfl,⟨fun k b a=>?_,fun k k' b b' j a bU=>?_,f.h.bd⟩,fun j b O=>?_,P.ke.E L.L5 L,fun u v a p=>P.ke u v (aD.L5 u v<|f.mo.ke.le h0 u v a p)<|f.mo.ke.le h0 u v a p⟩;rw[N]at a;by_cases d:K=k;subst d;simp only[It,zA]at a;subst a;obtain⟨B,k1,j,l',e1,e2,W⟩:=f.h.ok K _ r;refine⟨B,?_,j,l',e1,e2,?_⟩;refine(NB _).2 fun u hu=>?_;obtain h |h:=Gv hu
 exact(NB q).1 k1 u h;subst h;rfl;obtain⟨v,h3,h4⟩:=W.get J;simp only[aD]at h4;subst h4;have:=W.set i<|YA (x:=x) (e:=e) (sz:=sz) (o:=none) ca;rw[qxa h3]at this;exact P.ke.E this.L5 this;simp only[d,LX]at a;obtain⟨B,g⟩:=f.h.ok k b a;exact⟨B,g.mono P rfl fun _ _ _ h=>h⟩;have M:∀k b,gt z.Y.h k=some b->∃c,gt y.Y.h k=some c:=fun k b a=>by rw[N]at a;by_cases d:K=k;subst d;exact⟨_,r⟩;simp only[d,LX]at a;exact⟨b,a⟩
 obtain⟨c,I⟩:=M k b a;obtain⟨c',pP⟩:=M k' b' bU;exact f.h.inj k k' c c' j I pP;obtain⟨B,g⟩:=S j b O;refine⟨B,fun k c I=>?_⟩;rw[N]at I;by_cases d:K=k;subst d;exact g _ _ r;simp only[d,LX]at I;exact g k c I
def wZ(k:IntKind)(x:Int):(cI k x).length=1:=rfl
def PA(x:X RX):(cS x).length=1:=rfl
def Le{D:Type}(c:D->X U)(x:X D):(cL c x).length=1:=rfl
section
variable{T:Tb}{Y Y':Sg}{n:Nat}{l:X (Nat×U)}{u v w:U}
def z96{a b:X RX}(h:a.length+b.length<=9223372036854775807):IL .add ⟨⟨a⟩⟩ ⟨⟨b⟩⟩=some (.string ⟨(a++b).toArray⟩):=by
 have:¬ (((a.length+b.length:Nat):Int)>9223372036854775807):=by omega
 simp only[IL,this,LX]
end
def aT.post{P:Ib}{f:FuncId}{args:X U}{Y:Sg}{R q:U->Sg->Prop}(h:aT P f args Y R)(hg:∀u r,R u r->∃j g,Y.nx<=g.nx/\Gh Y.nx [u] r [j] g/\q j g):aT P f args Y q:=fun F x vs m w a p hh N he L b=>by
 refine(h F x vs m w a p hh N he L b).mono ?_;rintro e d ⟨y,s,u,v,K,S,V,B,W,Z,h6,h7,E,h9⟩;obtain⟨j,g,g1,g2,O⟩:=hg u y.Y V;obtain⟨z,z1,I,z3,z4,z5,z6⟩:=g2 F y [v] rfl Z h6 (aZ.cons h7<|aZ.nil y);obtain⟨v0,Jx,M,z7,_⟩:=z5.inv;cases M;have A:=z1 s d B.fits;exact⟨z,s,j,v,K,S,I ▸ O,B.trans A,W.ext (aJ.refl _ _) A.nx,z3,z4,z7,by rw[p]at E ⊢;exact E.trans z6,by rw[p,I];exact g1⟩
mutual
def sa(V:Nat->Nat):(u:U)->aS 0 u->rU V u=u
 |.ptr k _ _,h=>by simp[aS]at h
 |.sl k _ _ _,h=>by simp[aS]at h
 |.vl k _ _ _,h=>by simp[aS]at h
 |.map k,h=>by simp[aS]at h
 |.b4 l,h=>by simp only[aS]at h;simp[rU,JD V l h]
 |.O t l,h=>by simp only[aS]at h;simp[rU,VX V l h]
 |.fn f a b,h=>by simp only[aS]at h;simp[rU,JD V a h.1,JD V b h.2]
 |.agg l,h=>by simp only[aS]at h;simp[rU,JD V l h]
 |.a7 l,h=>by simp only[aS]at h;simp[rU,JD V l h]
 |.L2,_=>rfl|.bool _,_=>rfl
 |.int _ _,_=>rfl|.str _,_=>rfl
 |.b8,_=>rfl|.J,_=>rfl
 |.e9,_=>rfl|.j7,_=>rfl
 |.j9,_=>rfl
def JD(V:Nat->Nat):(l:X U)->aG 0 l->eR V l=l
 |[],_=>rfl|u::l,h=>by simp only[aG]at h;simp[eR,sa V u h.1,JD V l h.2]
def VX(V:Nat->Nat):(l:X (X U))->lL 0 l->uP V l=l
 |[],_=>rfl|c::l,h=>by simp only[lL]at h;simp[uP,JD V c h.1,VX V l h.2]
end
section
variable{P:Ib}{T:Tb}{a r:X Oper}{o:Oper}{n:Nat}{l:X (Nat×U)}{Y:Sg}{K:X U->Sg->Prop}
def lT{C:PG}{f:FuncId}{args:X U}{R:U->Sg->Prop}(m:c9 a (fr n l) o=some true)(b:kM T (fr n l) o.op=some (f,args))(p:aT C.prog f args Y R){d:Tmp}(g:o.dst=some d)(e:blt d n=true)(j:∀u Y',R u Y'->RU C T a r (fr n ((d,u)::l)) Y' K):RU C T a (o::r) (fr n l) Y K :=
 RU.call m b p (fun u Y' h=>by rw[g,v6 (d:=some d) u e];exact j u Y' h)
end
section
variable{Q:Exit->X U->Sg->Prop}{K:X U->Sg->Prop}{tm:X U}{Y:Sg}{i j n0:Nat}{E:X U->Sg->Prop}
def q1(h:K tm Y):wS K Q .normal tm Y:=h
def q2(h:Q (.exit i) tm Y):wS K Q (.exit i) tm Y:=h
def q3(h:Q .ret tm Y):wS K Q .ret tm Y:=h
def q4(h:Q .normal tm Y):v8 i Q .normal tm Y:=h
def q5(h:Q .ret tm Y):v8 i Q .ret tm Y:=h
def q6(h:Q .normal tm Y):v8 i Q (.exit i) tm Y:=Yl h
def q7(a:¬ j=i)(h:Q (.exit j) tm Y):v8 i Q (.exit j) tm Y:=Yk a h
def q8(h:∃tm' Y',E tm' Y'/\n0<=Y'.nx/\Gh n0 tm Y tm' Y'):AW n0 E Q .normal tm Y:=h
def q9(h:Q .ret tm Y):AW n0 E Q .ret tm Y:=h
def q0(h:Q (.exit i) tm Y):AW n0 E Q (.exit i) tm Y:=h
end
def z3y:∀{h:X (Nat×B)}{k:Nat}{b:B},gt h k=some b->ug h k b=h
 |[],k,b,a=>by cases a
 |(j,c)::h,k,b,a=>by simp only[gt,ug,beq_eq]at*;by_cases e:j=k;subst e;simp only[yC,zC,zA]at*;rw[a];simp only[e,yB,zD]at*;rw[z3y a]
variable{n:Nat}
def bJ.mJ{m:Nm}{s:S}{w:Jb}(d:fW m s w){i:Nat}{l:X I}{e:Nat}(f:lk s.h i=some (.inl (l,e,n+2)))(j:Nat):bJ m s w m ⟨up s.h i<|.inl (l.take j,e,n+2),s.nx⟩ w:=by
 refine bJ.write d f rfl (fun k y=>rfl) rfl rfl rfl rfl (zF _) fun a r=>?_;obtain⟨pre,b,p,q,v⟩:=(d a r).ok i _ f;refine⟨pre,aF a (l.drop j)++b,?_,q,?_⟩;rw[p];congr 3;have:aF a l=aF a (l.take j)++aF a (l.drop j):=by rw[<-y8,Ww]
 rw[this];simp[zT];have g:(aF a<|l.drop j).length=l.length-j:=by rw[lM];simp
 rw[zU,g,Wz];omega
def Gh.mJ{n0:Nat}{tm:X U}{Y:Sg}{K:Nat}{l:X U}{e:TypeId}{sz st:Nat}(f:gt Y.h K=some (.vec l e sz st))(j:Nat):Gh n0 tm Y tm ⟨ug Y.h K<|.vec (l.take j) e sz st,Y.nx⟩:=fun F x O A g a d=>by
 subst A;obtain⟨_,B,I,L⟩:=g.ok K _ f;obtain⟨rfl,M⟩|⟨i,s,z,p,q⟩:=L;rw[take_nil,z3y f];exact⟨x,fun m w a=>bJ.refl a,rfl,g,a,d,Ke.refl _ _⟩;have b:=Ta g (c:=.inl (s.take j,e,sz+2)) (bK:=.vec (l.take j) e sz st) f z p rfl (by rintro l e sz st h;cases h;exact⟨_,rfl⟩) fun y q1 q2 hm=>⟨UE B j,I,.inr ⟨i,s.take j,q1,q2,(hm.ke.E q.L5 q).take j⟩⟩
 refine⟨_,fun m w a=>bJ.mJ a p j,rfl,b.h,b.fr F a,?_,?_⟩;exact d.mono b.mo d.L5;exact fun u v N r=>aD.mono b.mo u v (aD.L5 u v r) r
variable{D:Type}{n0:Nat}{tm:X U}{Y:Sg}{K:Nat}{xs:X D}{e:TypeId}{sz:Nat}
def Gh.pX(c:D->X U){st:Nat}(a:∀x,(c x).length=sz)(b:gt Y.h K=some (.vec (xs.map c).flatten e sz st))(j:Nat):Gh n0 tm Y tm ⟨ug Y.h K<|.vec ((xs.take j).map c).flatten e sz st,Y.nx⟩:=by
 have:=Gh.mJ (n0:=n0) (tm:=tm) b (j*sz)
 rwa [Re a]at this
def Ms(p:Nat->Rl):∀(h:X (Nat×B))(k:Nat),gt (h.filter fun x=>p x.1) k=if p k then gt h k else none
 |[],k=>by simp[gt]
 |(j,b)::h,k=>by
  rw[ll];cases a:p j with
  |true=>simp only[It,aV,Ms p h k];by_cases e:j=k;subst e;simp[a];simp[e]|false=>simp only[XM,LX,Ms p h k,aV];by_cases e:j=k;subst e;simp[a];simp[e]
def Gh.only{n0:Nat}{tm:X U}{Y:Sg}(p:Nat->Rl):Gh n0 tm Y tm ⟨Y.h.filter fun x=>p x.1,Y.nx⟩:=fun F x L E z r A=>by
 subst E;have mo:∀n,Mo n x ⟨x.Z,⟨x.Y.h.filter fun y=>p y.1,x.Y.nx⟩,x.s⟩:=fun n=>⟨fun k _ f=>⟨f,fun q d=>by simp only[Ms]at d;split at d;exact⟨q,d,zF _,fun _=>⟨rfl,fun l e sz st h=>⟨l,h⟩⟩⟩;cases d⟩,fun _ _ _ h=>h⟩;refine⟨⟨x.Z,⟨x.Y.h.filter fun y=>p y.1,x.Y.nx⟩,x.s⟩,fun m w r=>bJ.refl r,rfl,⟨?_,?_,z.bd⟩,?_,A.mono (mo _) A.L5,fun u v a B=>aD.mono (mo _) u v (aD.L5 u v B) B⟩;intro k b a;simp only[Ms]at a;split at a;obtain⟨g,f⟩:=z.ok k b a;exact⟨g,f.mono (mo _) rfl (fun i c _ h=>h)⟩;cases a;intro k I b q i a d g f;simp only[Ms]at a d;split at a;split at d;exact z.inj k I b q i a d g f;cases d;cases a;intro i b O;obtain⟨g,f⟩:=r i b O;refine⟨g,fun k c j=>?_⟩;simp only[Ms]at j;split at j;exact f k c j;cases j
def pD{D:Type}(l:X D)(off n:Nat)(i:Int):A D:=if 0<=i/\i<(n:Int)then l[off+i.toNat]? else none
variable{off:Nat}{i:Int}{x:D}
def UF{l:X D}(h:pD l off n i=some x):0<=i/\i<(n:Int)/\l[off+i.toNat]? = some x:=by unfold pD at h;split at h;rename_i J;exact⟨J.1,J.2,h⟩;cases h
section
variable{D:Type}{c:D->X U}{sz:Nat}(a:∀x,(c x).length=sz)
include a
def qtq{xs:X D}{j:Nat}{x:D}(h:xs[j]? = some x):lW (xs.map c).flatten (j*sz) sz=some (c x):=by
 have b:=(zG.1 h).1;unfold lW;rw[FA a,ba a];have e:xs.drop j=x::xs.drop (j+1):=by rw[Xk b];congr;exact(zG.1 h).2
 rw[e,kh (by rw[<-eF];exact ri _ b)];simp only[zQ,Wx];have:=a x;rw[<-this,Q'];rfl
def qpc{xs:X D}{j:Nat}(h:j<xs.length)(x:D):rV (xs.map c).flatten (j*sz) (c x)=some ((xs.set j x).map c).flatten:=by unfold rV;rw[FA a,a,kh (by rw[<-eF];exact ri _ h),<-eF,ba a,Re a,set_eq_take_append_cons_drop,kh h];simp
end
section
variable{T:Tb}{Y Y':Sg}{n:Nat}{l:X (Nat×U)}{u v w:U}{t:TypeId}{e':TypeId}{m:Nat}
def VV(c:D->X U){st:Nat}{k:IntKind}(p:T.G4 t=some (.slice e))(q:cC T e=some sz)(y:0<sz)(j:∀x,(c x).length=sz)(r:oR Y K st=some ((xs.map c).flatten,e',sz))(s:pD xs off m i=some x):DP T Y t (.vl K st off m) (.int k i)=some (.ptr K st<|off*sz+i.toNat*sz):=by
 obtain⟨b,d,f⟩:=UF s;have a:¬ (xs.map c).flatten=[]:=fun h=>by have:=congrArg List.length h;rw[FA j]at this;have z:=(zG.1 f).1;have:=Gk (show 0<xs.length by omega) y;simp at*;omega
 have g:Nat.beq sz sz=true:=by simp[beq_eq]
 simp only[DP,p,q,r,g,zC,b,d,dG,a,gP,lr,It]
def qya{q:X U}{j:Nat}{u:U}(h:lW q j 1=some [u]):nth q j=some u:=by
 unfold lW at h;split at h;rename_i a;simp only[zA]at h;rw[jT];have:((q.drop j).take 1)[0]? = some u:=by rw[h];rfl
 simpa using this;cases h
def yr(c:D->X U){st:Nat}{y:D}{o z:Qo}{a:X U}{b:X (Nat×B)}(A:cC T t=some sz)(j:∀x,(c x).length=sz)(s:bM n l o=some (.ptr K st<|off*sz+i.toNat*sz))(L:bM n l z=some v)(M:xB v=some a)(q:I5 a=true)(r:Nat.beq a.length sz=true)(I:xR a=c y)(E:gt Y.h K=some (.vec (xs.map c).flatten e' sz st))(F:pD xs off m i=some x)(f:ug Y.h K (.vec ((xs.set (off+i.toNat) y).map c).flatten e' sz st)=b):bH T Y (fr n l) (.store t o z)=some (.L2,⟨b,Y.nx⟩):=by
 subst f;have g:Nat.beq st st=true:=by simp
 have p:=(zG.1 (UF F).2.2).1;have d:=qpc j p y;rw[dR]at d;exact I1 rfl rfl (by simp only[qO,dF s,dF L,Am,A,M,r,q,zC,cellsOf,E,g,GJ,I,d,P4])
def vY(h:aC xs i=some x):pD xs 0 xs.length i=some x:=by obtain⟨a,b,d⟩:=Me h;unfold pD;rw[kh ⟨a,b⟩,Wy];exact d
def TM(c:D->X U){st a h q:Nat}{H J:A I}(g:T.G4 t=some (.slice e))(p:cC T e=some sz)(f:∀x,(c x).length=sz)(r:oR Y K st=some ((xs.map c).flatten,e',sz))(hm:off+m<=xs.length)(d:nQ m m H J=some (a,h,q)):TR T Y t (.vl K st off m) H J=some (.vl K st (off+a)<|h-a):=by
 have b:Nat.beq sz sz=true:=by simp[beq_eq]
 have j:(off+m)*sz<=(xs.map c).flatten.length:=by rw[FA f];exact ri _ hm
 simp only[TR,g,p,r,b,zC,d,j,It]
def Ds{st:Nat}{q:X U}(a:T.G4 t=some (.slice e))(h:gt Y.h K=some (.vec q e' sz st)):wP T Y t (.vl K st off m)=some (.int .i64 m):=by
 have b:Nat.beq st st=true:=by simp[beq_eq]
 simp only[wP,a,live,h,B.st,b,zC]
def mz(c:D->X U){st:Nat}(a:∀x,(c x).length=sz)(g:oR Y K st=some ((xs.map c).flatten,e,sz))(hm:off+m<=xs.length):wM Y sz (.vl K st off m)=some (((xs.drop off).take m).length,(((xs.drop off).take m).map c).flatten):=by
 have b:Nat.beq sz sz=true:=by simp[beq_eq]
 have f:off*sz+m*sz<=(xs.map c).flatten.length:=by rw[FA a,<-dR];exact ri _ hm
 have d:((xs.drop off).take m).length=m:=by simp;omega
 simp only[wM,g,b,zC,lW,f,It,ba a,Re a,d]
end
class Jp(a b:Nat):Prop where
 h:a<b
instance{b:Nat}:Jp 0 (b+1):=⟨succ_pos _⟩
instance{a b:Nat}[q:Jp a b]:Jp (a+1) (b+1):=⟨succ_lt_succ q.h⟩
class BF{D:Type}(c:D->X U):Prop where
 h:∀n x,aG n (c x)
instance(k:IntKind):BF (cI k):=⟨fun n x=>ut n k x⟩
instance:BF cS:=⟨z7u⟩
instance{D:Type}(c:D->X U)[q:BF c]:BF (cL c):=⟨fun n x=>Je n (q.h n) x⟩
class BU(n:Nat)(u:U):Prop where
 h:aS n u
class i8(n:Nat)(l:X U):Prop where
 h:aG n l
instance(n:Nat):i8 n []:=⟨by simp[aG]⟩
instance(n:Nat)(u:U)(l:X U)[a:BU n u][b:i8 n l]:i8 n (u::l):=⟨by simp only[aG];exact⟨a.h,b.h⟩⟩
instance{D:Type}(n:Nat)(c:D->X U)(l:X D)[q:BF c]:i8 n (l.map c).flatten:=⟨DQ n (q.h n) l⟩
instance(n:Nat)(b:Rl):BU n (.bool b):=⟨by simp[aS]⟩
instance(n:Nat)(k:IntKind)(z:Int):BU n (.int k z):=⟨by simp[aS]⟩
instance(n:Nat)(s:X RX):BU n (.str s):=⟨by simp[aS]⟩
instance(n:Nat):BU n .J:=⟨by simp[aS]⟩
instance(n k st off:Nat)[q:Jp k n]:BU n (.ptr k st off):=⟨by simp only[aS];exact q.h⟩
instance(n k off m c:Nat)[q:Jp k n]:BU n (.sl k off m c):=⟨by simp only[aS];exact q.h⟩
instance(n k st off m:Nat)[q:Jp k n]:BU n (.vl k st off m):=⟨by simp only[aS];exact q.h⟩
instance(n k:Nat)[q:Jp k n]:BU n (.map k):=⟨by simp only[aS];exact q.h⟩
instance(n:Nat)(l:X U)[q:i8 n l]:BU n (.b4 l):=⟨by simp only[aS];exact q.h⟩
instance(n:Nat)(l:X U)[q:i8 n l]:BU n (.agg l):=⟨by simp only[aS];exact q.h⟩
instance(n:Nat)(l:X U)[q:i8 n l]:BU n (.a7 l):=⟨by simp only[aS];exact q.h⟩
instance(n:Nat)(f:Fn)(a b:X U)[p:i8 n a][q:i8 n b]:BU n (.fn f a b):=⟨by simp only[aS];exact⟨p.h,q.h⟩⟩
instance{D:Type}(n:Nat)(t:Rl)(c:D->X U)(l:X D)[q:BF c]:BU n (.O t<|l.map c):=⟨by simp only[aS];exact vA c (q.h n) l⟩
instance(n:Nat)(t:Rl):BU n (.O t []):=⟨by simp[aS,lL]⟩
class BS(n:Nat)(l:X (Nat×U)):Prop where
 h:ej n l
instance(n:Nat):BS n []:=⟨by simp[ej]⟩
instance(n i:Nat)(u:U)(l:X (Nat×U))[a:BU n u][b:BS n l]:BS n ((i,u)::l):=⟨by simp only[ej];exact⟨a.h,b.h⟩⟩
class Pl{D:Type}(f:D->U):Prop where
 h:∀n x,aS n (f x)
instance(k:IntKind):Pl (fun x:Int=>U.int k x):=⟨fun n x=>by simp[aS]⟩
class BB(n:Nat)(b:B):Prop where
 h:cV n b
instance(n:Nat)(l:X U)(e:TypeId)[q:i8 n l]:BB n (.row l e):=⟨by simp only[cV];exact q.h⟩
instance(n:Nat)(l:X U)(e:TypeId)(sz st:Nat)[q:i8 n l]:BB n (.vec l e sz st):=⟨by simp only[cV];exact q.h⟩
class BH(n:Nat)(h:X (Nat×B)):Prop where
 h:GU n h
instance(n:Nat):BH n []:=⟨by simp[GU]⟩
instance(n k:Nat)(b:B)(h:X (Nat×B))[p:BB n b][q:BH n h]:BH n ((k,b)::h):=⟨by simp only[GU];exact⟨p.h,q.h⟩⟩
def OE{n1:Nat}{l l':X (Nat×U)}{a:X (Nat×B)}(m:pV l l')(j:Vx.cut n1 Y.h=a)(b:n0<=n1)(d:n1<=Y.nx)[f:BS n1 l'][g:BH n1 a]:Gh n0 (fr n l) Y (fr n l') ⟨a,n1⟩:=Gh.DU m (by rw[j]) b d f.h g.h
def GF(u:U)(a:tm=[u])[q:BU 0 u]:Gh 0 tm Y [u] ⟨[],0⟩:=by
 subst a;refine Gh.to (n1:=0) [] rfl ?_ (zF _) (qq _) (by simp only[aG];exact⟨q.h,trivial⟩) (by simp[GU]);have:∀h:X (Nat×B),Vx.cut 0 h=[]:=by
  intro h;induction h with
  |nil=>rfl|cons x h d=>obtain⟨k,b⟩:=x;simp only[Vx.cut,d];rfl
 rw[this]
variable{P:Ib}{f:FuncId}
def C_{args:X U}{u:U}(h:aT P f args ⟨[],0⟩ (fun a _=>a=u/\aS 0 a))[q:i8 0 args](Y:Sg):aT P f args Y (fun a Y'=>a=u/\Y'=Y):=aT.tY h q.h Y
def HZ{args args':X U}{u:U}(h:pQ args args')(b:∀s,aT P f args' s fun a Y'=>a=u/\Y'=s)(Y:Sg):aT P f args Y (fun a Y'=>a=u/\Y'=Y):=aT.ghost (Gh.wk h) (zF _) (b Y)
class oK(v11:Prop)(B:outParam Prop):Prop where
 h:B->v11
section
variable{Q:Exit->X U->Sg->Prop}{K:X U->Sg->Prop}{tm:X U}{Y:Sg}{i j n0:Nat}{E:X U->Sg->Prop}
instance:oK (wS K Q .normal tm Y) (K tm Y):=⟨q1⟩
instance:oK (wS K Q (.exit i) tm Y) (Q (.exit i) tm Y):=⟨q2⟩
instance:oK (wS K Q .ret tm Y) (Q .ret tm Y):=⟨q3⟩
instance:oK (v8 i Q .normal tm Y) (Q .normal tm Y):=⟨q4⟩
instance:oK (v8 i Q .ret tm Y) (Q .ret tm Y):=⟨q5⟩
instance:oK (v8 i Q (.exit i) tm Y) (Q .normal tm Y):=⟨q6⟩
instance:oK (AW n0 E Q .normal tm Y) (∃tm' Y',E tm' Y'/\n0<=Y'.nx/\Gh n0 tm Y tm' Y'):=⟨q8⟩
instance:oK (AW n0 E Q .ret tm Y) (Q .ret tm Y):=⟨q9⟩
end
variable{C:PG}
def sq{Q:Exit->X U->Sg->Prop}{p q:Code}(h:I6 C n0 p tm Y (wS (fun tm Y=>I6 C n0 q tm Y Q) Q)):I6 C n0 (.seq p q) tm Y Q:=I6.seq h
section
variable{P:Ib}{T:Tb}{a r:X Oper}{n:Nat}{l:X (Nat×U)}{Y:Sg}{K:X U->Sg->Prop}{u:U}
def RS.mv{o:Oper}{x:Qo}(m:c9 a (fr n l) o=some true)(j:o.op=.move x)(p:bM n l x=some u){d:Tmp}(g:o.dst=some d)(h:RU C T a r (fr n ((d,u)::l)) Y K)(b:blt d n=true:=by rfl):RU C T a (o::r) (fr n l) Y K:=RS.op m (by rw[j];exact kN p) g b h
def RS.as{o:Oper}{x:Qo}(m:c9 a (fr n l) o=some true)(j:o.op=.assign x)(p:bM n l x=some u){d:Tmp}(g:o.dst=some d)(h:RU C T a r (fr n ((d,u)::l)) Y K)(b:blt d n=true:=by rfl):RU C T a (o::r) (fr n l) Y K:=RS.op m (by rw[j];exact qsb p) g b h
end
section
variable{P:Ib}{T:Tb}{a r:X Oper}{o:Oper}{n:Nat}{l:X (Nat×U)}{Y:Sg}{b:X RK}{K:X RK->X U->Sg->Prop}{u:U}
def RD.mv{x:Qo}(p:c9 a (fr n l) o=some true)(m:o.op=.move x)(q:bM n l x=some u){d:Tmp}(h:o.dst=some d)(j:RH P T a r (fr n ((d,u)::l)) Y ((1,⟨fr n l,o,u,false,false,Y,Y⟩)::b) K)(g:blt d n=true:=by rfl):RH P T a (o::r) (fr n l) Y b K:=RD.look p (by rw[m];exact kN q) h g j
end
class t_(a b:Nat):Prop where
 h:¬ a=b
instance{b:Nat}:t_ 0 (b+1):=⟨by omega⟩
instance{a b:Nat}[q:t_ a b]:t_ (a+1) (b+1):=⟨by have:=q.h;omega⟩
instance{Q:Exit->X U->Sg->Prop}{tm:X U}{Y:Sg}{i j:Nat}[h:t_ j i]:oK (v8 i Q (.exit j) tm Y) (Q (.exit j) tm Y):=⟨q7 h.h⟩
def gq{v11 B:Prop}[s:oK v11 B](h:B):v11:=s.h h
def FH(T:Tb):X Field->A (X<|Nat×Nat)
 |[]=>some []|f::a=>match cC T f.type,FH T a with
  |some n,some l=>some ((f.offset,n)::l)|_,_=>none
def z2j{T:Tb}:∀{a:X Field}{pl:X (Nat×Nat)},FH T a=some pl->J6 T a=true/\∀i,ND T a i=nth pl i
 |[],pl,h=>by simp[FH]at h;subst h;exact⟨rfl,fun i=>rfl⟩
 |f::a,pl,h=>by
  simp only[FH]at h;rcases b:cC T f.type with _|n;simp[b]at h;rcases d:FH T a with _|l;simp[b,d]at h;simp only[b,d,zA]at h;subst h;obtain⟨g1,g2⟩:=z2j d;refine⟨by simp[J6,b,g1],fun i=>?_⟩;cases i with
  |zero=>simp[ND,nth,b]|succ i=>exact g2 i
structure BdT(T:Tb)(t:TypeId)(zu:X U)(pl:X (Nat×Nat)):Prop where
 bd:∀{qs:X (Nat×U)}{cs:X U},rY (nth pl) zu qs=some cs->I5 cs=true->Ll T t qs=some (.agg cs)
variable{t:TypeId}{b:Nat}{z:I}{zu:X U}
def vM{T:Tb}{d:Ie Field}{a:Nat}{pl:X (Nat×Nat)}(g:T.G4 t=some (.struct d))(J:T.inf t=some (a,b,z))(m:qN z.cells.toList=some zu)(j:FH T d.toList=some pl):BdT T t zu pl:=⟨fun{qs cs} h hk=>by
 obtain⟨g1,g2⟩:=z2j j;have:ND T d.toList=nth pl:=funext g2;simp only[Ll,J,m,g,g1,zC,this,h,hk]⟩
section
variable{T:Tb}{Y Y':Sg}{n:Nat}{l:X (Nat×U)}{u v w:U}{g:Ie (Nat×Qo)}{qs:X (Nat×U)}{cs:X U}
def d?{pl:X (Nat×Nat)}(h:BdT T t zu pl)(a:DH n l g.toList=some qs)(d:rY (nth pl) zu qs=some cs)(j:I5 cs=true):bH T Y (fr n l) (.build t g)=some (.agg cs,Y):=Bg a (h.bd d j)
def F2{k:Nat}(m:T.G4 t=some (.slice e))(J:T.inf e=some (sz,b,z))(h:DH n l g.toList=some qs)(a:ble (k*sz) 16777216=true)(d:ble k 16777216=true)(j:Nat.beq z.cells.toList.length sz=true)(r:qN z.cells.toList=some zu)(p:rY (fun i=>some (i*sz,sz)) (y3 zu k) qs=some cs)(q:I5 cs=true):bH T Y (fr n l) (.buildSlice t k g)=some (.sl Y.nx 0 k k,cc Y<|.row cs e):=Xe h (by simp only[Tu,m,J,a,d,j,zC,r,p,q])
def uY.bs{k:Nat}{a:X (X U)}(r:T.G4 t=some (.slice e))(J:T.inf e=some (sz,b,z))(h:DH n l g.toList=some qs)(d:ble (k*sz) 16777216=true)(j:ble k 16777216=true)(p:Nat.beq z.cells.toList.length sz=true)(E:qN z.cells.toList=some zu)(s:rY (fun i=>some (i*sz,sz)) (y3 zu k) qs=some cs)(y:I5 cs=true)(A:ble (k*sz) cs.length=true)(B:bR sz k cs=a)[q:i8 0 cs]:uY P T (fr n l) (.buildSlice t k g) (.O false a):=
 .inr ⟨k,sz,cs,e,fun Y=>F2 r J h d j p E s y,zY A,fun m _=>aG.le (qq _) _ q.h,by rw[B]⟩
variable{a:Int}{g:IntKind}
def z8f(k:IntKind){b:Int}(h:¬ b<0):lD .shr k a g b=some (.int k<|a.fdiv<|2^(min b.toNat k.bits)):=by simp[lD,h]
def Dw(k:IntKind){b:Int}(h:¬ b<0):lD .shl k a g b=some (.int k<|k.wrap<|a*2^(min b.toNat k.bits)):=by simp[lD,h]
def c?(c:D->X U)(z:D){x y:Qo}{k:IntKind}{d:Nat}{j:I}(s:bM n l x=some (.int k a))(A:bM n l y=some (.int g a))(p:T.G4 t=some (.slice e))(J:T.inf e=some (sz,d,j))(B:qN j.cells.toList=some zu)(q:I5 zu=true)(E:xR zu=c z)(r:Nat.beq j.cells.toList.length sz=true)(h:0<=a/\d*a.toNat<=281474976710656/\a<=281474976710656):bH T Y (fr n l) (.makeSlice t x y)=some (.sl Y.nx 0 a.toNat a.toNat,cc Y<|.row ((replicate a.toNat z).map c).flatten e):=by
 have m:y3 (c z) a.toNat=((replicate a.toNat z).map c).flatten:=by simp[y3]
 refine Xd s A ?_;simp only[Pp,p,J,B,q,r,zC,h.1,h.2.1,h.2.2,yv,lr,It,E,m]
variable{m:Nat}
def J0{q:Nat}{k:IntKind}(j:T.G4 t=some (.slice e))(p:cC T e=some sz)(r:live Y K 0=true)(s:pD xs 0 m i=some x):DP T Y t (.sl K 0 m q) (.int k i)=some (.ptr K 0<|0*sz+i.toNat*sz):=by obtain⟨d,h,_⟩:=UF s;simp only[DP,j,p,r,zC,d,h,lr,It,lg]
def TY(c:D->X U){q:TypeId}{d:TypeDesc}{o:Qo}(f:D->U)(y:T.G4 t=some d)(r:rH d=false)(j:∀x,c x=[f x])(A:bM n l o=some (.ptr K 0<|0*1+i.toNat*1))(B:gt Y.h K=some (.row (xs.map c).flatten q))(E:pD xs 0 m i=some x):bH T Y (fr n l) (.load t o)=some (f x,Y):=by refine OJ rfl ?_;have s:Nat.beq 0 0=true:=rfl;have p:=qtq (c:=c) (sz:=1) (fun x=>by rw[j];rfl) (UF E).2.2;rw[j,dR]at p;simp only[qR,dF A,cellsOf,B,s,zC,GX,y,r,zD,qya p]
def F_(c:D->X U){j:TypeId}{y:D}{o z:Qo}{p:X (Nat×B)}(M:cC T t=some sz)(q:∀x,(c x).length=sz)(L:bM n l o=some (.ptr K 0<|0*sz+i.toNat*sz))(S:bM n l z=some v)(V:xB v=some cs)(F:I5 cs=true)(R:cs=c y)(N:gt Y.h K=some (.row (xs.map c).flatten j))(O:pD xs 0 m i=some x)(s:ug Y.h K (.row ((xs.set i.toNat y).map c).flatten j)=p):bH T Y (fr n l) (.store t o z)=some (.L2,⟨p,Y.nx⟩):=by
 subst R;subst s;have A:Nat.beq 0 0=true:=rfl;have d:Nat.beq (c y).length sz=true:=by simp[q]
 have E:=(zG.1 (UF O).2.2).1;have r:=qpc q E y;rw[dR,Wy]at r;exact I1 rfl rfl (by simp only[qO,dF L,dF S,Am,M,V,d,F,zC,cellsOf,N,A,GJ,r,P4])
def z8i{q:Nat}(d:T.G4 t=some (.slice e))(h:live Y K 0=true):wP T Y t (.sl K off m q)=some (.int .i64 m):=by simp only[wP,d,h,zC]
def yz{c:D->X U}(d:∀x,(c x).length=sz)(h:m=xs.length)(K:Nat)(e:TypeId):fz K (.row (xs.map c).flatten e) sz (.sl K 0 m m)=.O false (xs.map c):=by
 subst h;have p:0+xs.length*sz<=(xs.map c).flatten.length:=by rw[FA d];omega
 have j:Nat.beq K K=true:=by simp
 simp only[fz,j,zC,p,It,Xl,qlq d]
end
def aT.yZ(c:D->X U){d:X D}{g:X U}[s:BF c][p:i8 0 g]{k:Nat}
  (h:aT P f g ⟨[],0⟩ (fun u Y'=>∃a,u=.vl k a 0 d.length/\Y'=⟨[(k,.vec (d.map c).flatten e sz a)],k+1⟩)) (Y:Sg) (K:Nat) (q:Y.nx+k=K):
  aT P f g Y (fun u Y'=>∃a,u=.vl K a 0 d.length/\Y'=⟨(K,.vec (d.map c).flatten e sz a)::Y.h,K+1⟩):=by
 subst q;have y:∀l:X D,aG 0 (l.map c).flatten:=fun l=>DQ 0 (s.h 0) l;have m:=aT.frame [] h Y ca ca p.h (by intro k b r;simp[gt]at r);rw[JD _ _ p.h]at m;refine aT.post m ?_;rintro u A ⟨E,B,⟨a,rfl,rfl⟩,_,rfl,rfl⟩;refine⟨.vl (Y.nx+k) a 0 d.length,⟨(Y.nx+k,.vec (d.map c).flatten e sz a)::Y.h,Y.nx+k+1⟩,by simp;omega,?_,a,rfl,rfl⟩;have w:xi [] Y ⟨[(k,.vec (d.map c).flatten e sz a)],k+1⟩=⟨(Y.nx+k,.vec (d.map c).flatten e sz a)::J4 [] Y.h,Y.nx+k+1⟩:=by simp[xi,AP,nm,rB,JD _ _<|y d];omega
 rw[w];have:=Gh.same (n0:=Y.nx) (tm:=[rU (nm [] Y.nx)<|.vl k a 0 d.length]) (Y:=⟨(Y.nx+k,.vec (d.map c).flatten e sz a)::J4 [] Y.h,Y.nx+k+1⟩) ((Y.nx+k,.vec (d.map c).flatten e sz a)::Y.h) (fun j=>by rw[aV,aV,Tk];by_cases v:Y.nx+k=j<;>simp[v]);exact this
def Gh.qJ{q q':X U}(d:gt Y.h K=some (.row q e))(g:I5 q'=true)(h:pQ q q'):Gh n0 tm Y tm ⟨ug Y.h K<|.row q' e,Y.nx⟩:=Gh.row d g fun x j _ _ a=>⟨h.rel a.1,by rw[h.len];exact a.2⟩
def Rs{D G:Type}:X G->(Rl->A (X D))->A (X D)
 |[],F=>match F true,F false with
  |some [],some []=>some []|_,_=>none
 |_::_,F=>F false
def qxt{G:Type}{l:X G}{F:Rl->A (X D)}{r:X D}(h:Rs l F=some r)(z:Rl)(j:z=true->l=[]):F z=some r:=by cases l with|nil=>simp only[Rs]at h;split at h;rename_i d g;cases z;rw[g];exact h;rw[d];exact h;cases h|cons a l=>obtain _|_:=z;exact h;have:=j rfl;cases this
end Go.Vx
namespace Go.Vx
open Go Go.Rx
structure kF(K v09:Type) where
 es:X (K×v09×Nat)
 cl:Nat
def B2{K a:Type}(eq:K->K->Rl)(k:K):X (K×a×Nat)->Nat->A (Nat×a×Nat)
 |[],_=>none|e::b,i=>cond (eq k e.1) (some (i,e.2.1,e.2.2)) (B2 eq k b<|i+1)
def AX{K a:Type}(v:a):X (K×a×Nat)->Nat->X (K×a×Nat)
 |[],_=>[]|e::b,0=>(e.1,v,e.2.2)::b
 |e::b,i+1=>e::AX v b i
def GQ{K a:Type}:kF K a:=⟨[],0⟩
def I3{K a:Type}(eq:K->K->Rl)(m:kF K a)(k:K):A a:=(B2 eq k m.es 0).map fun x=>x.2.1
def DG{K a:Type}(eq:K->K->Rl)(m:kF K a)(k:K)(v:a):kF K a:=match B2 eq k m.es 0 with
 |none=>⟨m.es++[(k,v,m.cl)],m.cl+1⟩|some (i,_)=>⟨AX v m.es i,m.cl⟩
section
variable{K c:Type}(kU:K->U)(vU:c->U)
def mE(e:K×c×Nat):ME:=⟨kU e.1,vU e.2.1,e.2.2⟩
def z1e(v:c):∀(a:X (K×c×Nat))(i:Nat),MH (a.map<|mE kU vU) i (fun e=>{ e with val:=vU v })=(AX v a i).map (mE kU vU)
 |[],i=>by cases i<;>simp[MH,AX]
 |e::a,0=>by simp[MH,AX,mE]
 |e::a,i+1=>by simp[MH,AX,z1e v a i]
structure XX(T:Tb)(kt:TypeId)(eq:K->K->Rl)(kV:K->I):Prop where
 v:∀k,cK (kU k)=some (kV k)
 cmp:∀a b,eqv T 50 kt (kV a) (kV b)=some (eq a b)
 key:∀k,xW T 50 kt (kV k)=true
 pl:∀k,plain (kV k)=true
 same:∀a b,eq a b=true->GL 50 (kV b) (kV a)=true
variable{kU vU}{T:Tb}{d:TypeId}{eq:K->K->Rl}{f:K->I}(g:XX kU T d eq f)
include g
def VL(k:K):∀(a:X (K×c×Nat))(i:Nat),J2 T d (f k) (a.map<|mE kU vU) i=some ((B2 eq k a i).map fun x=>(x.1,vU x.2.1))
 |[],i=>rfl|e::a,i=>by simp only[zQ,J2,mE,g.v,g.cmp,B2];rcases h:eq k e.1 with _|_;exact VL k a<|i+1;simp
omit g in
def qzz(k:K):∀{l:X (K×c×Nat)}{i j:Nat}{v:c}{b:Nat},B2 eq k l i=some (j,v,b)->i<=j/\∃a,l[j-i]? = some (a,v,b)/\eq k a=true
 |[],i,j,v,b,h=>by simp[B2]at h
 |e::l,i,j,v,b,h=>by
  simp only[B2]at h;cases m:eq k e.1 with
  |true=>rw[m]at h;simp only[zC,zA,zB]at h;obtain⟨rfl,rfl,rfl⟩:=h;exact⟨zF _,e.1,by simp,m⟩
  |false=>rw[m]at h;simp only[zD]at h;obtain⟨p,a,n,o⟩:=qzz k h;refine⟨by omega,a,?_,o⟩;rw[show j-i=(j-(i+1))+1 by omega];simpa using n
variable{Y:Sg}{n:Nat}{l:X (Nat×U)}{r:Nat}{m:kF K c}{t e:TypeId}(i:T.G4 t=some (.map d e))(o:gt Y.h r=some (.map (m.es.map (mE kU vU)) m.cl))
include i o
def z6e{x h:Qo}{k:K}{a b:Nat}{z:I}{zv:c}(p:bM n l x=some (.map r))(j:bM n l h=some (kU k))(J:T.inf e=some (a,b,z))(s:jL z=some (vU zv)):bH T Y (fr n l) (.lookup t x h true)=some (.a7 [vU<|(I3 eq m k).getD zv,.bool (I3 eq m k).isSome],Y):=by refine OJ rfl ?_;simp only[qR,i,dF p,dF j,g.v,g.key,zC,o,VL g,I3];obtain _|q:=B2 eq k m.es 0;simp only[uv,J,s,Option.getD_none,Option.isSome];simp only[zM,gK,Option.isSome]
omit i o in
def Du{k:K}{j b:Nat}{v:c}(q:B2 eq k m.es 0=some (j,v,b)):∃a,nth (m.es.map (mE kU vU)) j=some ⟨kU a,vU v,b⟩/\GL 50 (f a) (f k)=true:=by obtain⟨_,a,h,p⟩:=qzz k q;refine⟨a,?_,g.same k a p⟩;rw[jT,vz];rw[sc]at h;rw[h];rfl
def Dh{x p v0:Qo}{k:K}{v:c}(A:bM n l x=some (.map r))(s:bM n l p=some (kU k))(a:bM n l v0=some (vU v)){h:Sg}(u:Sv Y r ((DG eq m k v).es.map (mE kU vU)) (DG eq m k v).cl=h):bH T Y (fr n l) (.mapUpdate t x p v0)=some (.L2,h):=by subst u;refine I1 rfl rfl ?_;simp only[qO,dF A,dF s,dF a,ue,i,g.v,g.key,g.pl,zC,o,VL g,DG];rcases z:B2 eq k m.es 0 with _|q;simp only[uv,LY,zQ,gg,mE];obtain⟨j,C,b⟩:=q;obtain⟨B,w,y⟩:=Du (vU:=vU) g z;simp only[zM,w,g.v,y,zC,z1e]
end
def OV{T:Tb}{Y:Sg}{n:Nat}{l:X (Nat×U)}{t:TypeId}:bH T Y (fr n l) (.makeMap t none)=some (.map Y.nx,cc Y<|.map [] 0):=I1 rfl rfl rfl
def Jd{K a:Type}{b:K->U}{c:a->U}{n:Nat}(g:∀k,aS n<|b k)(h:∀v,aS n<|c v)(d:X (K×a×Nat)):∀e∈d.map (mE b c),aS n e.key/\aS n e.val:=by intro e f;obtain⟨x,_,rfl⟩:=mem_map.1 f;exact⟨g _,h _⟩
def z0s{T:Tb}{t:TypeId}{k:IntKind}(hd:T.G4 t=some (.int k)):XX (fun x=>.int k x) T t (fun a b=>a==b) (fun x=>.int k x) where
 v:=fun _=>rfl
 cmp:=fun a b=>by simp[eqv,hd]
 key:=fun _=>by simp[xW,hd]
 pl:=fun _=>rfl
 same:=fun a b h=>by simp at h;simp[GL,h]
instance{K a:Type}(n:Nat)(kU:K->U)(vU:a->U)(es:X (K×a×Nat))(cl:Nat)[p:Pl kU][q:Pl vU]:BB n (.map (es.map<|mE kU vU) cl):=⟨by simp only[cV];exact Jd (p.h n) (q.h n) es⟩
end Go.Vx
