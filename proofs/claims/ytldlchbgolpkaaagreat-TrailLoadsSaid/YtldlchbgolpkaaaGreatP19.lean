import Derived.Shelf.SlSortCmp.WholeK
import Derived.Test.YtldlchbgolpkaaaGreatP18
set_option linter.all false
namespace Go.Vx
open Go Go.Rx Go.Proofs Go.Sort
def b7.of_same{P:H0}{f:FuncId}{us:V U}{vs:V O}{u:U}{cv:O}(hv:eG us=some vs)(hr:∀m,aE m vs=vs)(hu:toV u=some cv)(xG:∀m,ren m cv=cv)(h:∀w,Calls P f vs.toArray w fun e w'=>e=.returned cv/\w'=w)(X:Sg):b7 P f us X (fun u' X'=>u'=u/\X'=X):=fun F x ws m w cargs hx hh k9 he dR bW=>by
 have:=(DW us vs hv x ws).1 he;subst this;have hca:cargs=ws:=by rw[<-bW.at,hr]
 subst hca;refine(h w).mono ?_;rintro e w' ⟨rfl,rfl⟩;exact⟨x,m,u,cv,cv,rfl,⟨rfl,hx⟩,bG.refl dR,fun m' _=>xG m',hh,k9,(yV u cv hu x cv).2 rfl,Ke.refl _ _,zF _⟩
def b7.view0{P:H0}{f:FuncId}{args args':V U}{X:Sg}(h:b7 P f args ⟨[],0⟩ (fun u' _=>u'=.tup []/\bA 0 u'))(ha:aM 0 args){X1:Sg}(hg:Gh 0 args' X args X1):b7 P f args' X (fun u' X'=>u'=.tup []/\X'=X):=fun F x vs m w cargs hx hh k9 he dR bW=>by
 obtain⟨y1,a1,a2,a3,a4,a5,a6⟩:=hg F x vs hx hh k9 he;have fP:=a1 m w dR;have cW:=bG.less fP.fits (iv y1.s);have gI:Mo 0 y1 (cx (vY y1.s)):=⟨fun k hk=>by omega,fun i row e hl=>by show lk (vY y1.s).h i=_;rw[FF,hl];rfl⟩;have fD:∀b,¬ N7 m (vY y1.s) b:=fun b ⟨i,c,hc,ho,_⟩=>by rw[FF]at hc;obtain⟨_,l,e,rfl⟩:=MJ hc;simp[Rx.Own]at ho
 refine(h (fun _ _=>False) (cx (vY y1.s)) vs m w cargs rfl ⟨fun k b hb=>by simp[cx,gt]at hb,fun k k' b b' i hb=>by simp[cx,gt]at hb,fun i b hb=>?_⟩ (fun _ _ J=>J.elim) (gI.ke.E ha a5) cW.fits (bW.ext (aI.refl _ _) (Nat.le_trans fP.nx cW.nx))).mono ?_;have cP:lk (vY y1.s).h i=some b:=hb;rw[FF]at cP;exact a3.bd i b (MJ cP).1;rintro e mO ⟨y2,C7,u',v',cv,rfl,⟨rfl,_⟩,aS,fU,_,_,xG,_,_⟩;simp only[aD]at xG;obtain⟨q,rfl,_,hq⟩:=xG;have:q=[]:=List.eq_nil_of_length_eq_zero (by simpa using hq.symm);subst this;have Vw:cv=.tuple ⟨[]⟩:=by rw[<-fU.at];simp[ren,aE]
 subst Vw;have qL:∀b,b<w.heap.size->mO.heap[b]? = w.heap[b]?:=fun b aF=>aS.same b aF (fD b);refine⟨x,m,.tup [],.tuple ⟨[]⟩,.tuple ⟨[]⟩,rfl,⟨rfl,hx⟩,⟨aI.refl _ _,zF _,fun m' eF=>?_,fun b h=>.inl h,fun b aF _=>qL b aF,aS.size,aS.os,aS.tape,aS.output⟩,fun m' _=>by simp[ren,aE],hh,k9,by simp only[aD];exact⟨[],rfl,by simp[cO],rfl⟩,Ke.refl _ _,zF _⟩;have uK:=dR m' eF;exact⟨fun i b hb=>(uK.ok i b hb).world (qL _ (uK.size hb)),uK.inj,uK.bd⟩
def EO{v11:Type}(lt:v11->v11->D1)(x:v11):V v11->V v11
 |[]=>[x]|y::l=>cond (lt y x) (y::EO lt x l) (x::y::l)
def srt{v11:Type}(lt:v11->v11->D1):V v11->V v11
 |[]=>[]|x::l=>EO lt x (srt lt l)
def jk{v11:Type}(lt:v11->v11->D1)(x:v11):∀l,(EO lt x l).Perm (x::l)
 |[]=>.refl _|y::l=>by simp only[EO];rcases lt y x with _|_;exact .refl _;exact((jk lt x l).cons y).trans (.swap _ _ _)
def Fz{v11:Type}(lt:v11->v11->D1):∀l,(srt lt l).Perm l
 |[]=>.refl _|x::l=>(jk lt x _).trans ((Fz lt l).cons x)
def Asc{v11:Type}(lt:v11->v11->D1)(l:V v11):Prop:=l.Pairwise (fun x y=>lt y x=false)
def z06{v11:Type}{lt:v11->v11->D1}(h:SWO lt)(x:v11):∀{l},Asc lt l->Asc lt (EO lt x l)
 |[],_=>by simp[EO,Asc]
 |y::l,ha=>by
  simp only[EO];unfold Asc at ha ⊢;rw[List.pairwise_cons]at ha;cases hy:lt y x with
  |true=>simp only[zC];rw[List.pairwise_cons];refine⟨fun z hz=>?_,z06 h x ha.2⟩;have:=(jk lt x l).mem_iff.1 hz;rcases zI.1 this with rfl |hz;rcases hzy:lt z y with _|_;rfl;have:=h.trans y z y hy hzy;rw[h.irrefl]at this;cases this;exact ha.1 z hz
  |false=>simp only[zD];rw[List.pairwise_cons];refine⟨fun z hz=>?_,List.pairwise_cons.2 ha⟩;rcases zI.1 hz with rfl |hz;exact hy;exact h.ntrans z y x (ha.1 z hz) hy
def z7v{v11:Type}{lt:v11->v11->D1}(h:SWO lt):∀l,Asc lt (srt lt l)
 |[]=>by simp[srt,Asc]
 |x::l=>z06 h x (z7v h l)
end Go.Vx
namespace Go.Proofs
open Go Go.Rx Go.Vx Go.Shelf Go.Sort
def ny:∀a b:V Xv,lW a b=true↔a=b
 |[],[]=>by simp[lW]
 |[],_::_=>by simp[lW]
 |_::_,[]=>by simp[lW]
 |x::a,y::b=>by have h:(x.toNat=y.toNat)↔x=y:=UInt8.toNat_inj;simp only[lW,beq_eq];by_cases e:x=y;subst e;simp[ny a b];simp[e,mt h.1 e]
def zcl(a b:Nat):Nat.blt a b=true↔a<b:=by unfold Nat.blt;rw[Nat.ble_eq];exact Iff.rfl
def uA(a b:Nat):Nat.blt a b=decide (a<b):=by rw[Bool.eq_iff_iff,zcl];simp
def qkn:∀a:V Xv,kX a a=false
 |[]=>rfl|x::a=>by simp[kX,uA,qkn a]
def qlt:∀a b c:V Xv,kX a b=true->kX b c=true->kX a c=true
 |_,[],_,h,_=>by simp[kX]at h
 |_,_::_,[],_,h=>by simp[kX]at h
 |[],_::_,_::_,_,_=>by simp[kX]
 |x::a,y::b,z::c,h1,h2=>by
  simp only[kX,uA,beq_eq]at*;by_cases h:x.toNat<y.toNat;by_cases h':y.toNat<z.toNat;have:x.toNat<z.toNat:=by omega
  simp[this];simp only[h',yB,zD]at h2;by_cases e:y.toNat=z.toNat;have:x.toNat<z.toNat:=by omega
  simp[this];simp[e]at h2;simp only[h,yB,zD]at h1;by_cases e:x.toNat=y.toNat;simp only[e,yC,zC]at h1;by_cases h':y.toNat<z.toNat;simp[e,h'];simp only[h',yB,zD]at h2;by_cases e':y.toNat=z.toNat;simp only[e',yC,zC]at h2;have:=qlt a b c h1 h2;simp[e,e',this];simp[e']at h2;simp[e]at h1
def qls:∀a b:V Xv,kX a b=false->kX b a=false->a=b
 |[],[],_,_=>rfl|[],_::_,h,_=>by simp[kX]at h
 |_::_,[],_,h=>by simp[kX]at h
 |x::a,y::b,h1,h2=>by
  simp only[kX,uA,beq_eq]at*;by_cases h:x.toNat<y.toNat;simp[h]at h1;by_cases h':y.toNat<x.toNat;simp[h']at h2;have e:x.toNat=y.toNat:=by omega
  simp only[e,Nat.lt_irrefl,yB,zD,yC,zC]at h1 h2;rw[qls a b h1 h2,UInt8.toNat_inj.1 e]
variable{v11:Type}
def aP{I:Type}(a:v11)(k:v11->M I):a8 (some a) k=k a:=rfl
def wr{z:Int}(h1 : -9223372036854775808<=z)(h2:z<=9223372036854775807):IntKind.i64.wrap z=z:=wrap_i64 (by omega) (by omega)
variable{i:Nat}
def iF{len:Nat}(h:i<len)(hl:len<=9223372036854775807):IntKind.i64.wrap ((i:Int)+1)=((i+1:Nat):Int):=by rw[wr (by omega) (by omega)];simp
def DD{z:Int}{k:Nat}(h:z=k)(h2:k<=9223372036854775807):IntKind.i64.wrap z=(k:Int):=by subst h;exact wr (by omega) (by omega)
variable{l:V v11}
def eA(h:i<l.length):∃x,l[i]? = some x/\x∈l:=⟨l[i],by simp[h],by simp⟩
variable{x:v11}
def iY(h:l[i]? = some x):l.take (i+1)=l.take i++[x]:=by rw[List.take_add_one,h];rfl
def aV(h:l[i]? = some x):l.drop i=x::l.drop (i+1):=by have aF:i<l.length:=(zG.1 h).1;rw[List.drop_eq_getElem_cons aF];congr 1;rw[List.getElem?_eq_getElem aF]at h;exact Option.some.inj h
def gP{n:Nat}(h:i<n):decide ((i:Int)<(n:Int))=true:=by simp;omega
def hX{n:Nat}(h:¬ i<n):decide ((i:Int)<(n:Int))=false:=by simp;omega
def bQ(h:¬ i<l.length):l.drop i=[]:=List.drop_eq_nil_of_le (by omega)
structure Cmp{v11:Type}(c:v11->v11->Int):Prop where
 val:∀x y,c x y= -1\/c x y=0\/c x y=1
 anti:∀x y,c y x= - c x y
 trans:∀x y z,c x y<=0->c y z<=0->c x z<=0
variable{c:v11->v11->Int}
def Cmp.self(h:Cmp c)(x:v11):c x x=0:=by have:=h.anti x x;omega
variable{y:v11}
def Cmp.congr(h:Cmp c)(BI:c x y=0)(z:v11):c x z=c y z:=by have h1:=h.val x z;have h2:=h.val y z;have a1:=h.anti x y;have a2:=h.anti x z;have a3:=h.anti y z;have t1:=h.trans x y z;have t2:=h.trans y x z;have t3:=h.trans z x y;have t4:=h.trans z y x;omega
def Cmp.congr'(h:Cmp c)(BI:c x y=0)(z:v11):c z x=c z y:=by have h1:=h.congr BI z;have a2:=h.anti x z;have a3:=h.anti y z;omega
def Cmp.lt_of(h:Cmp c){z:v11}(h1:c x y<0)(h2:c y z<=0):c x z<0:=by have t1:=h.trans x y z (by omega) h2;rcases Int.lt_or_eq_of_le t1 with h3 |h3;exact h3;have:=h.congr h3 y;have a3:=h.anti y z;omega
def GK{v11:Type}(c d:v11->v11->Int)(x y:v11):Int:=if c x y≠0 then c x y else d x y
def Cmp.lex{d:v11->v11->Int}(hc:Cmp c)(hd:Cmp d):Cmp (GK c d) where
 val x y:=by unfold GK;split;exact hc.val x y;exact hd.val x y
 anti x y:=by
  unfold GK;have a1:=hc.anti x y;have a2:=hd.anti x y;by_cases h:c x y=0;have:c y x=0:=by omega
  simp[h,this,a2];have:¬ c y x=0:=by omega
  simp[h,this,a1]
 trans x y z h1 h2:=by
  unfold GK at*;by_cases h:c x y=0;have e:=hc.congr h z;simp only[h,ne_eq,not_true,if_false]at h1;rw[e];by_cases h':c y z=0;simp only[h',ne_eq,not_true,if_false]at h2 ⊢;exact hd.trans x y z h1 h2;simp only[h',ne_eq,not_false_eq_true,if_true]at h2 ⊢;exact h2;simp only[h,ne_eq,not_false_eq_true,if_true]at h1;have y6:c x y<0:=by omega
  by_cases h':c y z=0;have e:=hc.congr' h' x;rw[<-e];simp only[h,ne_eq,not_false_eq_true,if_true];exact h1;simp only[h',ne_eq,not_false_eq_true,if_true]at h2;have:=hc.lt_of y6 h2;have d5:¬ c x z=0:=by omega
  simp only[d5,ne_eq,not_false_eq_true,if_true];omega
def fy{d:v11->v11->Int}:GK c d x y=0↔c x y=0/\d x y=0:=by unfold GK;by_cases h:c x y=0<;>simp[h]
def Cmp.pull{I:Type}(h:Cmp c)(f:I->v11):Cmp (fun x y=>c (f x) (f y)):=⟨fun x y=>h.val _ _,fun x y=>h.anti _ _,fun x y z=>h.trans _ _ _⟩
def cmpI(a b:Int):Int:=if a<b then -1 else if b<a then 1 else 0
def Gn{a b:Int}:cmpI a b=0↔a=b:=by unfold cmpI;split;omega;split<;>omega
def Fw:Cmp cmpI where
  val x y := by unfold cmpI; split; · simp
                split<;>simp
  anti x y:=by unfold cmpI;split<;>split<;>(try split)<;>omega
  trans x y z:=by unfold cmpI;intro h1 h2;split at h1<;>split at h2<;>(try split at h1)<;>(try split at h2)<;>(try split)<;>(try split)<;>omega
def z9v(c:v11->v11->Int)(x y:v11):ltOf c x y=true↔c x y<0:=by simp[ltOf]
def Cmp.swo(h:Cmp c):SWO (ltOf c) where
 irrefl x:=by have:=h.self x;simp[ltOf,this]
 trans x y z h1 h2:=by rw[z9v]at*;exact h.lt_of h1 (by omega)
 ntrans x y z h1 h2:=by
  have e:∀a b,ltOf c a b=false↔c b a<=0:=fun a b=>by have:=h.anti a b;simp[ltOf];omega
  rw[e]at*;exact h.trans z y x h2 h1
section
variable{v11:Type}{c:v11->v11->Int}
def WW(hc:Cmp c)(l:V v11):(srt (ltOf c) l).Pairwise (fun x y=>c x y<=0):=by have:=z7v hc.swo l;refine List.Pairwise.imp ?_ this;intro x y h;have:=hc.anti x y;simp[ltOf]at h;omega
end
end Go.Proofs
namespace Go.Vx
open Go Go.Rx
section
variable{K v09:Type}[DecidableEq K]
def vW(k:K):V (K×v09×Nat)->M v09
 |[]=>none|e::es=>if k=e.1 then some e.2.1 else vW k es
variable{eq:K->K->D1}(he:∀a b,eq a b=true↔a=b)
include he
omit [DecidableEq K] in
def Yz{a b:K}(h:¬ a=b):eq a b=false:=by rcases h':eq a b with _|_;rfl;exact absurd ((he a b).1 h') h
def dx(k:K):∀(es:V (K×v09×Nat))(i:Nat),(yT eq k es i).map (fun x=>x.2.1)=vW k es
 |[],i=>rfl|e::es,i=>by simp only[yT,vW];by_cases h:k=e.1;rw[(he k e.1).2 h,if_pos h];rfl;rw[Yz he h,if_neg h];exact dx k es (i+1)
def z9w(m:eI K v09)(k:K):tE eq m k=vW k m.es:=dx he k m.es 0
def z5k(k:K)(v:v09):∀{es:V (K×v09×Nat)}{i j:Nat}{q:v09×Nat},yT eq k es i=some (j,q)->i<=j/\∀x,vW x (B1 v es (j-i))=if x=k then some v else vW x es
 |[],i,j,q,h=>by cases h
 |e::es,i,j,q,h=>by simp only[yT]at h;by_cases hk:k=e.1;rw[(he k e.1).2 hk]at h;simp only[zC,zA,zB]at h;obtain⟨rfl,_⟩:=h;refine⟨zF _,fun x=>?_⟩;simp only[Nat.sub_self,B1,vW,hk];split<;>rfl;rw[Yz he hk]at h;simp only[zD]at h;obtain⟨h1,h2⟩:=z5k k v h;refine⟨by omega,fun x=>?_⟩;rw[show j-i=(j-(i+1))+1 by omega];simp only[B1,vW,h2];by_cases hx:x=e.1;have:¬ x=k:=fun h=>hk (h ▸ hx);simp[hx];intro h;exact absurd h.symm hk;simp[hx]
omit he [DecidableEq K] in
def z1k(v:v09):∀(es:V (K×v09×Nat))(i:Nat),(B1 v es i).map (fun e=>e.1)=es.map (fun e=>e.1)/\(B1 v es i).map (fun e=>e.2.2)=es.map (fun e=>e.2.2)
 |[],i=>by simp[B1]
 |e::es,0=>by simp[B1]
 |e::es,i+1=>by simp[B1,z1k v es i]
omit he in
def J3(x k:K)(v:v09)(b:Nat):∀es:V (K×v09×Nat),vW x (es++[(k,v,b)])=if vW x es=none then(if x=k then some v else none)else vW x es
 |[]=>by simp[vW]
 |e::es=>by simp only[List.cons_append,vW];by_cases hx:x=e.1;simp[hx];simp only[hx,if_false];exact J3 x k v b es
structure MInv(m:eI K v09):Prop where
 keys:(m.es.map (fun e=>e.1)).Nodup
 borns:(m.es.map (fun e=>e.2.2)).Nodup
 lt:∀e∈m.es,e.2.2<m.cl
omit he in
def MInv.app{m:eI K v09}(h:MInv m){k:K}(hf:vW k m.es=none)(v:v09):MInv (⟨m.es++[(k,v,m.cl)],m.cl+1⟩:eI K v09):=by
 refine⟨?_,?_,?_⟩;simp only[List.map_append,zQ,List.map_nil];rw[List.nodup_append];refine⟨h.keys,by simp,?_⟩;intro a ha b hb vJ;simp only[List.mem_singleton]at hb;subst vJ hb;clear h;generalize m.es=es at*;induction es with
 |nil=>simp at ha|cons e es ih=>simp only[vW]at hf;by_cases hx:a=e.1;simp[hx]at hf;simp only[hx,if_false]at hf;simp only[zQ,zI,hx,false_or]at ha;exact ih ha hf
 simp only[List.map_append,zQ,List.map_nil];rw[List.nodup_append];refine⟨h.borns,by simp,?_⟩;intro a ha b hb vJ;simp only[List.mem_singleton]at hb;obtain⟨e,he,rfl⟩:=List.mem_map.1 ha;have:=h.lt e he;omega;intro e he;rcases yD.1 he with he |he;have:=h.lt e he;simp only;omega;simp only[List.mem_singleton]at he;subst he;simp
omit he [DecidableEq K] in
def MInv.set{m:eI K v09}(h:MInv m)(v:v09)(i:Nat):MInv (⟨B1 v m.es i,m.cl⟩:eI K v09):=by obtain⟨h1,h2⟩:=z1k v m.es i;refine⟨by simp only[h1];exact h.keys,by simp only[h2];exact h.borns,fun e he=>?_⟩;have:e.2.2∈(B1 v m.es i).map (fun e=>e.2.2):=List.mem_map.2 ⟨e,he,rfl⟩;rw[h2]at this;obtain⟨e',g1,g2⟩:=List.mem_map.1 this;have:=h.lt e' g1;simp only at g2 ⊢;omega
def VY{m:eI K v09}(h:MInv m)(k:K)(v:v09):MInv (xV eq m k v)/\∀x,vW x (xV eq m k v).es=if x=k then some v else vW x m.es:=by
 unfold xV;cases hf:yT eq k m.es 0 with
 |none=>
  have hg:vW k m.es=none:=by rw[<-dx he k m.es 0,hf];rfl
  refine⟨h.app hg v,fun x=>?_⟩;simp only[J3];by_cases hx:x=k;simp[hx,hg];simp only[hx,if_false];split<;>simp_all
 |some q=>obtain⟨j,q⟩:=q;have:=(z5k he k v hf).2;exact⟨h.set v j,fun x=>by simpa using this x⟩
end
end Go.Vx
namespace Go.Proofs
open Go Go.Rx Go.Vx Go.Shelf Go.Sort
set_option maxRecDepth 10000
def oF{v11:Type}(c:v11->v11->Int):V v11->V v11->Int
 |[],[]=>0|[],_::_=>-1
 |_::_,[]=>1|x::xs,y::ys=>if c x y≠0 then c x y else oF c xs ys
def Cmp.list{v11:Type}{c:v11->v11->Int}(h:Cmp c):Cmp (oF c) where
 val:=by
  intro x;induction x with
  |nil=>intro y;cases y<;>simp[oF]|cons a x ih=>intro y;rcases y with _|⟨b,y⟩;simp[oF];simp only[oF];split;exact h.val a b;exact ih y
 anti:=by
  intro x;induction x with
  |nil=>intro y;cases y<;>simp[oF]|cons a x ih=>
   intro y;rcases y with _|⟨b,y⟩;simp[oF];simp only[oF];have a1:=h.anti a b;have a2:=ih y;by_cases e:c a b=0;have:c b a=0:=by omega
   simp[e,this,a2];have:¬ c b a=0:=by omega
   simp[e,this,a1]
 trans:=by
  intro x;induction x with
  |nil=>intro y z h1 h2;cases z<;>simp[oF]|cons a x ih=>
   intro y z h1 h2;rcases y with _|⟨b,y⟩;simp[oF]at h1;rcases z with _|⟨d,z⟩;simp[oF]at h2;simp only[oF]at*;by_cases e:c a b=0;have e2:=h.congr e d;simp only[e,ne_eq,not_true,if_false]at h1;rw[e2];by_cases e3:c b d=0;simp only[e3,ne_eq,not_true,if_false]at h2 ⊢;exact ih y z h1 h2;simp only[e3,ne_eq,not_false_eq_true,if_true]at h2 ⊢;exact h2;simp only[e,ne_eq,not_false_eq_true,if_true]at h1;have y6:c a b<0:=by omega
   by_cases e3:c b d=0;have e4:=h.congr' e3 a;rw[<-e4];simp only[e,ne_eq,not_false_eq_true,if_true];exact h1;simp only[e3,ne_eq,not_false_eq_true,if_true]at h2;have:=h.lt_of y6 h2;have d5:¬ c a d=0:=by omega
   simp only[d5,ne_eq,not_false_eq_true,if_true];omega
def fx{v11:Type}{c:v11->v11->Int}:∀{xs ys:V v11},(∀x∈xs,∀y,c x y=0->x=y)->oF c xs ys=0->xs=ys
 |[],[],_,_=>rfl|[],_::_,_,h=>by simp[oF]at h
 |_::_,[],_,h=>by simp[oF]at h
 |x::xs,y::ys,hc,h=>by simp only[oF]at h;by_cases e:c x y=0;simp only[e,ne_eq,not_true,if_false]at h;rw[hc x (by simp) y e,fx (fun a ha=>hc a (by simp[ha])) h];simp[e]at h
def PZ:aG->aG->Int:=GK (fun x y=>cmpI x.Feat y.Feat) (fun x y=>cmpI x.To y.To)
def De:Cmp PZ:=(Fw.pull _).lex (Fw.pull _)
def z92{x y:aG}(h:PZ x y=0):x=y:=by simp only[PZ,fy,Gn]at h;cases x;cases y;simp only at h;obtain⟨rfl,rfl⟩:=h;rfl
def VB:aJ->aJ->Int:=GK (GK (fun x y=>cmpI x.Typex y.Typex) (fun x y=>cmpI x.Arcs.length y.Arcs.length)) (fun x y=>oF PZ x.Arcs y.Arcs)
def Db:Cmp VB:=((Fw.pull _).lex (Fw.pull (fun x:aJ=>(x.Arcs.length:Int)))).lex (De.list.pull _)
def z93{x y:aJ}(h:VB x y=0):x=y:=by simp only[VB,fy,Gn]at h;have:=fx (fun a _ b h=>z92 h) h.2;cases x;cases y;simp only at h this;obtain⟨⟨rfl,_⟩,_⟩:=h;subst this;rfl
def Dd:GFS->GFS->Int:=GK (fun x y=>cmpI x.Nodes.length y.Nodes.length) (fun x y=>oF VB x.Nodes y.Nodes)
def Dc:Cmp Dd:=(Fw.pull (fun x:GFS=>(x.Nodes.length:Int))).lex (Db.list.pull _)
def xx{x y:GFS}:Dd x y=0↔x=y:=⟨fun h=>by
 simp only[Dd,fy,Gn]at h;have:=fx (fun a _ b h=>z93 h) h.2;cases x;cases y;simp only at this;subst this;rfl,fun h=>by subst h;exact Dc.self x⟩
structure cJ(f:GFS)(k:Nat):Prop where
 nodes:f.Nodes.length<=k
 arcs:∀x∈f.Nodes,x.Arcs.length<=k
def LU(l:V aG):V Int:=l.flatMap fun a=>[a.Feat,a.To]
def R4(x:aJ):V Int:=[x.Typex,(x.Arcs.length:Int)]++LU x.Arcs
def I0(f:GFS):V Int:=(f.Nodes.length:Int)::f.Nodes.flatMap R4
def ff:∀l:V aG,(LU l).length=2*l.length
 |[]=>rfl|a::l=>by have:=ff l;simp only[LU,List.flatMap_cons,zU,zO,zS]at*;omega
def z6m{x:aJ}{i:Int}{rc:Int->V Int->M (V Int)}(hx:x.Arcs.length<=1000000):∀(m k:Nat)(bD:V Int),x.Arcs.length-k<m->k<=x.Arcs.length->bD.length+2*(x.Arcs.length-k)<=1000000000->
  Rk i rc x m k bD=rc (IntKind.i64.wrap (i+1)) (bD++LU (x.Arcs.drop k))
 |0,k,bD,hm,_,_=>by omega
 |m+1,k,bD,hm,hk,ha=>by
  unfold Rk;by_cases aF:k<x.Arcs.length;obtain⟨a,h1,_⟩:=eA aF;have hn:(bD.length+2)*8<=140737488355328/\bD.length+2<=140737488355328:=by omega
  simp only[gP aF,zC,cH,h1,aP,aH,hn,and_self,if_true,iF aF (show x.Arcs.length<=9223372036854775807 by omega)];rw[z6m hx m (k+1) _ (by omega) (by omega) (by simp only[zU,zO,zS];omega),aV h1];simp[LU];simp only[hX aF,zD,mq,bQ aF,LU,List.flatMap_nil,List.append_nil]
def z6l{f:GFS}{n:Nat}(hf:cJ f 1000)(hn:1001<=n):∀(m i:Nat)(bD:V Int),f.Nodes.length-i<m->i<=f.Nodes.length->bD.length+2002*(f.Nodes.length-i)<=900000000->
  SM f n m i bD=some (bD++(f.Nodes.drop i).flatMap R4)
 |0,i,bD,hm,_,_=>by omega
 |m+1,i,bD,hm,hi,ha=>by
  unfold SM;have hl:=hf.nodes;by_cases aF:i<f.Nodes.length;obtain⟨x,hx,fT⟩:=eA aF;have h2:=hf.arcs x fT;have hn:(bD.length+2)*8<=140737488355328/\bD.length+2<=140737488355328:=by omega
  have h0:=z6m (i:=(i:Int)) (rc:=SM f n m) (x:=x) (by omega) n 0 (bD++[x.Typex,(x.Arcs.length:Int)]) (by omega) (by omega) (by simp only[zU,zO,zS];omega);rw[zV,List.drop_zero]at h0;simp only[gP aF,zC,cH,hx,aP,aH,hn,and_self,if_true,h0,iF aF (show f.Nodes.length<=9223372036854775807 by omega)];rw[z6l hf (by omega) m (i+1) _ (by omega) (by omega) (by simp only[zU,zO,zS,ff];omega),aV hx];simp[R4];simp only[hX aF,zD,S_,bQ aF,List.flatMap_nil,List.append_nil]
variable{f:GFS}
variable{n:Nat}
def z6n(hf:cJ f 1000)(hn:1001<=n):Hc n f=some (I0 f):=by have hl:=hf.nodes;have:=z6l hf hn n 0 [(f.Nodes.length:Int)] (by omega) (by omega) (by simp only[zO,zS];omega);rw[zV,List.drop_zero]at this;simp only[Hc,this,I0,List.singleton_append]
def C0:V Int->V Int->Int
 |x::xs,y::ys=>if cmpI x y≠0 then cmpI x y else C0 xs ys|_,_=>0
def z1c{l m:V Int}(hl:l.length<=1000000000):∀(n i:Nat),l.length-i<n->i<=l.length->Rl l m n i=some (C0 (l.drop i) (m.drop i))
 |0,i,hn,_=>by omega
 |n+1,i,hn,hi=>by unfold Rl;by_cases h1:i<l.length;obtain⟨x,hx,_⟩:=eA h1;by_cases h2:i<m.length;obtain⟨y,hy,_⟩:=eA h2;simp only[gP h1,gP h2,zC,aP,cH,hx,hy,iF h1 (show l.length<=9223372036854775807 by omega),aV hx,aV hy,C0,cmpI];by_cases h3:x<y;simp[h3];by_cases h4:y<x;simp[h3,h4];simp only[h3,h4,yB,zD,if_false,ne_eq,not_true,gt_iff_lt];exact z1c hl n (i+1) (by omega) (by omega);simp only[gP h1,hX h2,zC,zD,aP,uo,aV hx,bQ h2,C0];simp only[hX h1,zD,aP,uo,bQ h1,C0]
def za3{k:Nat}(hf:cJ f k):(I0 f).length<=1+f.Nodes.length*(2+2*k):=by
 have:∀l:V aJ,(∀x∈l,x.Arcs.length<=k)->(l.flatMap R4).length<=l.length*(2+2*k):=by
  intro l;induction l with
  |nil=>intro _;simp|cons x l ih=>
   intro h;have h1:=ih fun y hy=>h y (List.mem_cons_of_mem _ hy);have h2:=h x (by simp);have h3:(l.length+1)*(2+2*k)=l.length*(2+2*k)+(2+2*k):=by rw[Nat.add_mul,Nat.one_mul]
   simp only[List.flatMap_cons,zU,R4,zO,zS,ff];rw[h3];omega
 have:=this f.Nodes hf.arcs;simp only[I0,zO];omega
def z74{g:GFS}(hf:cJ f 1000)(hg:cJ g 1000)(hn:3000000<=n):mf n f g=some (C0 (I0 f) (I0 g)):=by have h1:=za3 hf;have h2:=hf.nodes;have h3:f.Nodes.length*(2+2*1000)<=1000*(2+2*1000):=Nat.mul_le_mul_right _ h2;have:=z1c (l:=I0 f) (m:=I0 g) (by omega) n 0 (by omega) (by omega);rw[zV,List.drop_zero,List.drop_zero]at this;simp only[mf,z6n hf (show 1001<=n by omega),z6n hg (show 1001<=n by omega),aP,this]
def qwb{c d:V Int}:∀{xs ys:V aG},xs.length=ys.length->C0 (LU xs++c) (LU ys++d)=if oF PZ xs ys≠0 then oF PZ xs ys else C0 c d
 |[],[],_=>by simp[LU,oF]
 |[],_::_,h=>by simp at h
 |_::_,[],h=>by simp at h
 |x::xs,y::ys,h=>by simp only[zO,Nat.add_right_cancel_iff]at h;have ih:=qwb (c:=c) (d:=d) h;simp only[LU,List.flatMap_cons,List.cons_append,List.nil_append,C0,oF]at ih ⊢;rw[ih];unfold PZ GK;by_cases e:cmpI x.Feat y.Feat=0;by_cases e2:cmpI x.To y.To=0<;>simp[e,e2];simp[e]
def qsp{c d:V Int}:∀{xs ys:V aJ},xs.length=ys.length->C0 (xs.flatMap R4++c) (ys.flatMap R4++d)=if oF VB xs ys≠0 then oF VB xs ys else C0 c d
 |[],[],_=>by simp[oF]
 |[],_::_,h=>by simp at h
 |_::_,[],h=>by simp at h
 |x::xs,y::ys,h=>by
  simp only[zO,Nat.add_right_cancel_iff]at h;have ih:=qsp (c:=c) (d:=d) h;simp only[List.flatMap_cons,R4,zT,List.cons_append,List.nil_append,C0,oF];have hN:VB x y=(if(if cmpI x.Typex y.Typex≠0 then cmpI x.Typex y.Typex else cmpI (x.Arcs.length:Int) y.Arcs.length)≠0 then(if cmpI x.Typex y.Typex≠0 then cmpI x.Typex y.Typex else cmpI (x.Arcs.length:Int) y.Arcs.length)else oF PZ x.Arcs y.Arcs):=rfl;simp only[hN];by_cases e:cmpI x.Typex y.Typex=0;by_cases e2:cmpI (x.Arcs.length:Int) y.Arcs.length=0;have hl:x.Arcs.length=y.Arcs.length:=by have:=Gn.1 e2;omega
  simp only[e,e2,ne_eq,not_true,if_false];rw[qwb hl,ih];by_cases e3:oF PZ x.Arcs y.Arcs=0<;>simp[e3];simp[e,e2];simp[e]
def zcm(f g:GFS):C0 (I0 f) (I0 g)=Dd f g:=by
 simp only[I0,C0,Dd];unfold GK;by_cases e:cmpI (f.Nodes.length:Int) g.Nodes.length=0;have hl:f.Nodes.length=g.Nodes.length:=by have:=Gn.1 e;omega
 have:=qsp (c:=[]) (d:=[]) hl;simp only[List.append_nil,C0]at this;simp only[e,ne_eq,not_true,if_false,this];by_cases e2:oF VB f.Nodes g.Nodes=0<;>simp[e2];simp[e]
def xj{g:GFS}(hf:cJ f 1000)(hg:cJ g 1000)(hn:3000000<=n):FK n f g=some (Dd f g==0):=by simp only[FK,z74 hf hg hn,aP,zcm]
def z0c{f:GFS}(hl:f.Nodes.length<=12):∀(m i:Nat),f.Nodes.length-i<m->i<=f.Nodes.length->∃b,Qt f m i=some b/\(b=true->∀x∈f.Nodes.drop i,x.Arcs.length<=12)
 |0,i,hm,_=>by omega
 |m+1,i,hm,hi=>by unfold Qt;by_cases aF:i<f.Nodes.length;obtain⟨x,hx,_⟩:=eA aF;simp only[gP aF,zC,cH,hx,aP,iF aF (show f.Nodes.length<=9223372036854775807 by omega)];by_cases h:(x.Arcs.length:Int)>12;simp only[h,yC,zC];exact⟨false,rfl,fun h=>by cases h⟩;simp only[h,yB,zD];obtain⟨b,h1,h2⟩:=z0c hl m (i+1) (by omega) (by omega);refine⟨b,h1,fun hb=>?_⟩;rw[aV hx];intro y hy;rcases zI.1 hy with rfl |hy;omega;exact h2 hb y hy;simp only[hX aF,zD,r_,bQ aF];exact⟨true,rfl,fun _ x hx=>by cases hx⟩
def z9s(f:GFS)(hn:20<=n):∃b,yi n f=some b/\(b=true->cJ f 12):=by unfold yi;by_cases h:(f.Nodes.length:Int)>12;simp only[h,yC,zC];exact⟨false,rfl,fun h=>by cases h⟩;simp only[h,yB,zD];obtain⟨b,h1,h2⟩:=z0c (f:=f) (by omega) n 0 (by omega) (by omega);rw[zV]at h1;rw[List.drop_zero]at h2;exact⟨b,h1,fun hb=>⟨by omega,h2 hb⟩⟩
def cJ.up{k k':Nat}(h:cJ f k)(hk:k<=k'):cJ f k':=⟨by have:=h.nodes;omega,fun x hx=>by have:=h.arcs x hx;omega⟩
def cFq(a b:aG):Int:=cmpI a.Feat b.Feat
def VC:Cmp cFq:=Fw.pull aG.Feat
def vT(l:V aG):V aG:=srt (ltOf cFq) l
def J7(l:V aG):(vT l).Perm l:=Fz _ l
def mN(l:V aG):Prop:=l.Pairwise (fun a b=>a.Feat≠b.Feat)
variable{l:V aG}
def mN.perm{m:V aG}(h:l.Perm m)(hd:mN l):mN m:=(h.pairwise_iff (fun{a b} h=>Ne.symm h)).1 hd
def mN.eq:∀{l:V aG},mN l->∀x∈l,∀y∈l,x.Feat=y.Feat->x=y
 |[],_,x,hx,_,_,_=>by cases hx
 |a::l,h,x,hx,y,hy,e=>by obtain⟨h1,h2⟩:=List.pairwise_cons.1 h;rcases zI.1 hx with e1 |hx';rcases zI.1 hy with e2 |JX;rw[e1,e2];subst e1;exact absurd e (h1 y JX);rcases zI.1 hy with e2 |JX;subst e2;exact absurd e.symm (h1 x hx');exact mN.eq h2 x hx' y JX e
def lY(l:V aG):Prop:=l.Pairwise (fun a b=>a.Feat<b.Feat)
def Zi{a b:aG}:cFq a b<=0↔a.Feat<=b.Feat:=by unfold cFq cmpI;by_cases h1:a.Feat<b.Feat;simp[h1];omega;by_cases h2:b.Feat<a.Feat;simp[h1,h2];simp[h1,h2];omega
def Fl(h:mN l):lY (vT l):=by have h1:=WW VC l;have h2:mN (vT l):=h.perm (J7 l).symm;refine(List.Pairwise.and h1 h2).imp fun{a b} h=>?_;have:=Zi.1 h.1;have:=h.2;omega
def aq:∀{a b:V aG},lY a->lY b->a.Perm b->a=b
 |[],b,_,_,h=>(List.nil_perm.1 h).symm|x::a,[],_,_,h=>by have:=h.length_eq;simp at this
 |x::a,y::b,ha,hb,h=>by
  obtain⟨h1,h2⟩:=List.pairwise_cons.1 ha;obtain⟨h3,h4⟩:=List.pairwise_cons.1 hb;have BI:x=y:=by rcases zI.1 (h.mem_iff.1 (List.mem_cons_self))with hx |hx;exact hx;rcases zI.1 (h.mem_iff.2 (List.mem_cons_self))with hy |hy;exact hy.symm;have h5:=h1 y hy;have h6:=h3 x hx;omega
  subst BI;rw[aq h2 h4 (h.cons_inv)]
def z7u{m:V aG}(hd:mN l)(h:m.Perm l)(hm:lY m):vT l=m:=aq (Fl hd) hm ((J7 l).trans h.symm)
def lY.dis(h:lY l):mN l:=h.imp fun{a b} h=>by omega
structure NOk(x:aJ)(N:Nat):Prop where
 ty:0<=x.Typex
 dis:mN x.Arcs
 arc:∀a∈x.Arcs,0<=a.Feat/\0<=a.To/\a.To<N
def wJ(f:GFS):Prop:=∀x∈f.Nodes,NOk x f.Nodes.length
def nd(f:GFS)(v:Int):aJ:=(f.Nodes[v.toNat]?).getD (aJ.mk 0 [])
def sO(f:GFS)(v:Int):Prop:=0<=v/\v<f.Nodes.length
variable{f:GFS}
variable{v:Int}
def R5(h:sO f v):aC f.Nodes v=some (nd f v)/\nd f v∈f.Nodes:=by
 have hv:v.toNat<f.Nodes.length:=by have:=h.1;have:=h.2;omega
 have h1:0<=v/\v<(f.Nodes.length:Int):=h;simp[aC,h1,nd,hv]
def jI(f:GFS)(v:Int):V aG:=vT (nd f v).Arcs
def FA{a:aG}:a∈jI f v↔a∈(nd f v).Arcs:=(J7 _).mem_iff
def lU(g:V Int->Int->V Int)(o:V Int)(a:aG):V Int:=if a.To∈o then o else g o a.To
def dfs(f:GFS):Nat->V Int->Int->V Int
 |0,o,_=>o|k+1,o,v=>(jI f v).foldl (lU (dfs f k)) (o++[v])
structure Seen(f:GFS)(o:V Int):Prop where
 nd:o.Nodup
 ing:∀v∈o,sO f v
def Oy:∀(N:Nat){o:V Int},o.Nodup->(∀v∈o,0<=v/\v<N)->o.length<=N
 |0,o,_,h=>by rcases o with _|⟨v,o⟩;simp;have:=h v (by simp);omega
 |N+1,o,hn,h=>by
  have h1:=Oy N (o:=o.filter (fun v=>v != (N:Int))) (hn.filter _) fun v hv=>by rw[List.mem_filter]at hv;have:=h v hv.1;have h2:=hv.2;simp at h2;omega
  have h2:o.length<=(o.filter (fun v=>v != (N:Int))).length+1:=by
   clear h1 h;induction o with
   |nil=>simp|cons x o ih=>
    obtain⟨h3,h4⟩:=List.nodup_cons.1 hn;have:=ih h4;by_cases e:x=N;subst e;have:o.filter (fun v=>v != (N:Int))=o:=List.filter_eq_self.2 fun v hv=>by simp only[bne_iff_ne,ne_eq];intro e;subst e;exact h3 hv
    simp[this];have e2:(x != (N:Int))=true:=by simpa using e
    rw[List.filter_cons_of_pos (by simpa using e)];simp only[zO];omega
  omega
variable{o:V Int}
def Seen.len(h:Seen f o):o.length<=f.Nodes.length:=Oy _ h.nd h.ing
def Seen.snoc(h:Seen f o)(hv:sO f v)(hn:v ∉ o):Seen f (o++[v]):=⟨by
 rw[List.nodup_append];refine⟨h.nd,by simp,?_⟩;intro a ha b hb;simp at hb;subst hb;intro e;subst e;exact hn ha,fun u hu=>by
 rcases yD.1 hu with hu |hu;exact h.ing u hu;simp at hu;subst hu;exact hv⟩
def Mt{f:GFS}(hg:wJ f):∀(k:Nat)(o:V Int)(v:Int),Seen f o->sO f v->v ∉ o->f.Nodes.length-o.length<=k->
  Seen f (dfs f k o v)/\(∃t,dfs f k o v=o++v::t)/\(∀u∈dfs f k o v,u ∉ o->∀a∈(nd f u).Arcs,a.To∈dfs f k o v)/\(∀k',f.Nodes.length-o.length<=k'->dfs f k' o v=dfs f k o v)
 |0,o,v,hs,hv,hn,hk=>by have h1:=(hs.snoc hv hn).len;simp only[zU,zO,zS]at h1;omega
 |k+1,o,v,hs,hv,hn,hk=>by
  have xF:=hs.snoc hv hn;have vC:=xF.len;simp only[zU,zO,zS]at vC;have key:∀(l:V aG),(∀a∈l,sO f a.To)->∀(p:V Int),Seen f p->(∃t,p=o++v::t)->(∀u∈p,u ∉ o->u≠v->∀a∈(nd f u).Arcs,a.To∈p)->
    Seen f (l.foldl (lU (dfs f k)) p)/\(∃t,l.foldl (lU (dfs f k)) p=p++t)/\(∀u∈l.foldl (lU (dfs f k)) p,u ∉ o->u≠v->∀a∈(nd f u).Arcs,a.To∈l.foldl (lU (dfs f k)) p)/\(∀a∈l,a.To∈l.foldl (lU (dfs f k)) p)/\
     (∀k',f.Nodes.length-(o.length+1)<=k'->l.foldl (lU (dfs f k')) p=l.foldl (lU (dfs f k)) p):=by
   intro l;induction l with
   |nil=>intro _ p hp mU eZ;exact⟨hp,⟨[],by simp⟩,eZ,⟨fun a ha=>(List.not_mem_nil ha).elim,fun _ _=>rfl⟩⟩|cons a l ih=>
    intro hl p hp mU eZ;have P7:=hl a (by simp);have CQ:=fun b hb=>hl b (List.mem_cons_of_mem a hb);simp only[List.foldl_cons];by_cases hm:a.To∈p;have e:∀k',lU (dfs f k') p a=p:=fun k'=>by simp[lU,hm]
    simp only[e];obtain⟨g1,⟨t,g2⟩,g3,g4,g5⟩:=ih CQ p hp mU eZ;refine⟨g1,⟨t,g2⟩,g3,fun b hb=>?_,g5⟩;rcases zI.1 hb with rfl |hb;rw[g2];exact List.mem_append_left _ hm;exact g4 b hb;have e:∀k',lU (dfs f k') p a=dfs f k' p a.To:=fun k'=>by simp[lU,hm]
    obtain⟨t0,mU⟩:=mU;have kI:o.length+1<=p.length:=by rw[mU];simp
    obtain⟨d1,⟨t1,d2⟩,d3,d4⟩:=Mt hg k p a.To hp P7 hm (by omega);have oN:∀u∈p,u∈dfs f k p a.To:=fun u hu=>by rw[d2];exact List.mem_append_left _ hu
    obtain⟨g1,⟨t,g2⟩,g3,g4,g5⟩:=ih CQ (dfs f k p a.To) d1 ⟨t0++a.To::t1,by rw[d2,mU];simp⟩ (fun u hu h1 h2 b hb=>by by_cases JY:u∈p;exact oN _ (eZ u JY h1 h2 b hb);exact d3 u hu JY b hb);rw[e k];refine⟨g1,⟨a.To::t1++t,by rw[g2,d2];simp⟩,g3,fun b hb=>?_,fun k' vF=>?_⟩;rcases zI.1 hb with rfl |hb;rw[g2,d2];simp;exact g4 b hb;rw[e k',d4 k' (by omega)];exact g5 k' vF
  have P7:∀a∈jI f v,sO f a.To:=fun a ha=>by have h1:=(hg _ (R5 hv).2).arc a (FA.1 ha);exact⟨h1.2.1,h1.2.2⟩
  obtain⟨g1,⟨t,g2⟩,g3,g4,g5⟩:=key (jI f v) P7 (o++[v]) xF ⟨[],rfl⟩ (fun u hu h1 h2=>by rcases yD.1 hu with hu |hu;exact absurd hu h1;simp at hu;exact absurd hu h2);refine⟨g1,⟨t,by show(jI f v).foldl _ _=_;rw[g2];simp⟩,fun u hu h1 a ha=>?_,fun k' vF=>?_⟩;by_cases e:u=v;subst e;exact g4 a (FA.2 ha);exact g3 u hu h1 e a ha;cases k' with
  |zero=>omega|succ k'=>exact g5 k' (by omega)
def tD(f:GFS)(r:Int):V Int:=dfs f f.Nodes.length [] r
def Seen.nil(f:GFS):Seen f []:=⟨List.nodup_nil,fun v hv=>by cases hv⟩
structure bk(f:GFS)(r:Int)(o:V Int):Prop where
 seen:Seen f o
 head:∃t,o=r::t
 clo:∀u∈o,∀a∈(nd f u).Arcs,a.To∈o
def XT(hg:wJ f){r:Int}(hr:sO f r):bk f r (tD f r)/\∀k,f.Nodes.length<=k->dfs f k [] r=tD f r:=by obtain⟨h1,⟨t,h2⟩,h3,h4⟩:=Mt hg f.Nodes.length [] r (Seen.nil f) hr (by simp) (by simp);exact⟨⟨h1,⟨t,by have h5:=h2;rw[List.nil_append]at h5;exact h5⟩,fun u hu=>h3 u hu (by simp)⟩,fun k hk=>h4 k (by simpa using hk)⟩
def m7(o:V Int)(a:aG):aG:=⟨a.Feat,(o.idxOf a.To:Int)⟩
def m8(f:GFS)(o:V Int)(v:Int):aJ:=⟨(nd f v).Typex,(jI f v).map (m7 o)⟩
def nR(f:GFS)(r:Int):GFS:=⟨(tD f r).map (m8 f (tD f r))⟩
structure Rep(w:eI Int Int)(o:V Int):Prop where
 inv:MInv w
 get:∀x,vW x w.es=if x∈o then some (o.idxOf x:Int)else none
def Zl(a b:Int):(a==b)=true↔a=b:=by simp
def Rep.nil:Rep (yM:eI Int Int) []:=⟨⟨by simp[yM],by simp[yM],by simp[yM]⟩,fun x=>by simp[yM,vW]⟩
def Rep.snoc{w:eI Int Int}(h:Rep w o)(hv:v ∉ o):Rep (xV (fun a b=>a==b) w v (o.length:Int)) (o++[v]):=by obtain⟨h1,h2⟩:=VY (eq:=fun a b:Int=>a==b) Zl h.inv v (o.length:Int);refine⟨h1,fun x=>?_⟩;rw[h2,h.get];by_cases e:x=v;subst e;simp[List.idxOf_append,hv];by_cases hx:x∈o;simp[e,hx,List.idxOf_append];simp[e,hx]
def Rep.mget{w:eI Int Int}(h:Rep w o)(x:Int):tE (fun a b=>a==b) w x=if x∈o then some (o.idxOf x:Int)else none:=by rw[z9w (eq:=fun a b:Int=>a==b) Zl,h.get]
def bo{v11:Type}(a b:V v11)(x y:v11):(a++x::b).set a.length y=a++y::b:=by simp
def EP(N:Nat)(seen:V Int):V aG->Int
 |[]=>0|a::l=>if a.Feat<0\/a.To<0\/a.To>=(N:Int)then 2 else if a.Feat∈seen then 4 else EP N (a.Feat::seen) l
def G9(N:Nat)(x:aJ):Int:=if x.Typex<0 then 2 else EP N [] x.Arcs
def qvt{N:Nat}:∀{l:V aG}{seen:V Int},EP N seen l=0↔(∀a∈l,0<=a.Feat/\0<=a.To/\a.To<N)/\mN l/\∀a∈l,a.Feat ∉ seen
 |[],seen=>by simp[EP,mN]
 |a::l,seen=>by
  simp only[EP];by_cases h1:a.Feat<0\/a.To<0\/a.To>=(N:Int);simp only[h1,if_true];refine⟨fun h=>absurd h (by decide),fun h=>?_⟩;have:=h.1 a (by simp);omega;by_cases h2:a.Feat∈seen;simp only[h1,h2,if_true,if_false];exact⟨fun h=>absurd h (by decide),fun h=>absurd h2 (h.2.2 a (by simp))⟩;simp only[h1,h2,if_false];rw[qvt (l:=l)];unfold mN;rw[List.pairwise_cons];constructor;rintro⟨g1,g2,g3⟩;refine⟨fun b hb=>?_,⟨fun b hb=>?_,g2⟩,fun b hb=>?_⟩;rcases zI.1 hb with rfl |hb;omega;exact g1 b hb;have:=g3 b hb;simp only[zI,not_or]at this;exact fun e=>this.1 e.symm
  rcases zI.1 hb with rfl |hb;exact h2;have:=g3 b hb;simp only[zI,not_or]at this;exact this.2;rintro⟨g1,⟨g2,g3⟩,g4⟩;refine⟨fun b hb=>g1 b (by simp[hb]),g3,fun b hb=>?_⟩;simp only[zI,not_or];exact⟨fun e=>g2 b hb e.symm,g4 b (by simp[hb])⟩
def qvw{N:Nat}{x:aJ}:G9 N x=0↔NOk x N:=by unfold G9;by_cases h:x.Typex<0;simp only[h,if_true];exact⟨fun h=>absurd h (by decide),fun h'=>by have:=h'.ty;omega⟩;simp only[h,if_false];rw[qvt];exact⟨fun⟨h1,h2,_⟩=>⟨by omega,h2,h1⟩,fun h=>⟨h.arc,h.dis,fun _ _=>by simp⟩⟩
def Q7(N:Nat):V aJ->Int
 |[]=>0|x::l=>if G9 N x≠0 then G9 N x else Q7 N l
def qvv{N:Nat}:∀{l:V aJ},Q7 N l=0↔∀x∈l,NOk x N
 |[]=>by simp[Q7]
 |x::l=>by simp only[Q7];by_cases h:G9 N x=0;simp only[h,ne_eq,not_true,if_false,qvv (l:=l),zI,forall_eq_or_imp,qvw.1 h,true_and];simp only[h,ne_eq,not_false_eq_true,if_true,zI,forall_eq_or_imp,false_iff,not_and];exact fun h2=>absurd (qvw.2 h2) h
def I4(f:GFS):Int:=if f.Nodes.length=0 then 1 else if f.Nodes.length>4096 then 7 else Q7 f.Nodes.length f.Nodes
variable{f:GFS}
def qvu:I4 f=0↔f.Nodes.length≠0/\f.Nodes.length<=4096/\wJ f:=by unfold I4;by_cases h0:f.Nodes.length=0;simp[h0];by_cases h1:f.Nodes.length>4096;simp[h0,h1];intro _;omega;simp only[h0,h1,if_false,qvv];exact⟨fun h=>⟨by simpa using h0,by omega,h⟩,fun h=>h.2.2⟩
structure rQ(f g:GFS)(Z:Int->Int)(S:Int->Prop):Prop where
 clo:∀v,S v->∀a∈jI f v,S a.To
 inj:∀u v,S u->S v->Z u=Z v->u=v
 ty:∀v,S v->(nd g (Z v)).Typex=(nd f v).Typex
 arc:∀v,S v->jI g (Z v)=(jI f v).map fun a=>⟨a.Feat,Z a.To⟩
def rQ.dfs{f g:GFS}{Z:Int->Int}{S:Int->Prop}(h:rQ f g Z S):∀(k:Nat)(o:V Int)(v:Int),S v->(∀u∈o,S u)->dfs g k (o.map Z) (Z v)=(Go.Proofs.dfs f k o v).map Z/\∀u∈Go.Proofs.dfs f k o v,S u
 |0,o,v,hv,ho=>⟨rfl,ho⟩|k+1,o,v,hv,ho=>by
  have key:∀(l:V aG)(p:V Int),(∀a∈l,S a.To)->(∀u∈p,S u)->
    (l.map fun a=>(⟨a.Feat,Z a.To⟩:aG)).foldl (lU (Go.Proofs.dfs g k)) (p.map Z)=(l.foldl (lU (Go.Proofs.dfs f k)) p).map Z/\∀u∈l.foldl (lU (Go.Proofs.dfs f k)) p,S u:=by
   intro l;induction l with
   |nil=>intro p _ hp;exact⟨rfl,hp⟩|cons a l ih=>
    intro p hl hp;have P7:=hl a (by simp);simp only[zQ,List.foldl_cons];have hm:Z a.To∈p.map Z↔a.To∈p:=by rw[List.mem_map];exact⟨fun⟨u,hu,e⟩=>by rw[<-h.inj u a.To (hp u hu) P7 e];exact hu,fun hu=>⟨_,hu,rfl⟩⟩
    by_cases iS:a.To∈p;have e1:lU (Go.Proofs.dfs g k) (p.map Z) (⟨a.Feat,Z a.To⟩:aG)=p.map Z:=by simp only[lU,hm.2 iS,if_true]
    have e2:lU (Go.Proofs.dfs f k) p a=p:=by simp only[lU,iS,if_true]
    rw[e1,e2];exact ih p (fun b hb=>hl b (List.mem_cons_of_mem _ hb)) hp;have e1:lU (Go.Proofs.dfs g k) (p.map Z) (⟨a.Feat,Z a.To⟩:aG)=Go.Proofs.dfs g k (p.map Z) (Z a.To):=by simp only[lU,mt hm.1 iS,if_false]
    have e2:lU (Go.Proofs.dfs f k) p a=Go.Proofs.dfs f k p a.To:=by simp only[lU,iS,if_false]
    obtain⟨g1,g2⟩:=rQ.dfs h k p a.To P7 hp;rw[e1,e2,g1];exact ih _ (fun b hb=>hl b (List.mem_cons_of_mem _ hb)) g2
  have Uv:∀u∈o++[v],S u:=fun u hu=>by rcases yD.1 hu with hu |hu;exact ho u hu;simp at hu;subst hu;exact hv
  have:=key (jI f v) (o++[v]) (h.clo v hv) Uv;refine⟨?_,this.2⟩;show(jI g (Z v)).foldl _ (o.map Z++[Z v])=_;have e:=this.1;simp only[List.map_append,zQ,List.map_nil]at e;rw[h.arc v hv];exact e
def qw5{Z:Int->Int}:∀{o:V Int}{x:Int},(∀u∈o,Z u=Z x->u=x)->(o.map Z).idxOf (Z x)=o.idxOf x
 |[],x,_=>rfl|u::o,x,h=>by
  simp only[zQ,List.idxOf_cons];have ih:=qw5 (o:=o) (x:=x) fun w hw=>h w (List.mem_cons_of_mem _ hw);by_cases e:u=x;subst e;simp;have e2:¬ Z u=Z x:=fun h2=>e (h u (by simp) h2);have e3:(u==x)=false:=by simpa using e
  have e4:(Z u==Z x)=false:=by simpa using e2
  simp only[e3,e4,zD,ih]
variable{r:Int}
def rQ.canon{g:GFS}{Z:Int->Int}{S:Int->Prop}(h:rQ f g Z S)(hf:wJ f)(hg:wJ g)(hr:sO f r)(hS:S r)(pe:sO g (Z r)):tD g (Z r)=(tD f r).map Z/\nR g (Z r)=nR f r:=by obtain⟨o1,s1⟩:=XT hf hr;obtain⟨o2,s2⟩:=XT hg pe;have h1:=h.dfs (f.Nodes.length+g.Nodes.length) [] r hS (by simp);rw[List.map_nil,s1 _ (by omega),s2 _ (by omega)]at h1;refine⟨h1.1,?_⟩;unfold nR;rw[h1.1,List.map_map];congr 1;refine List.map_congr_left fun v hv=>?_;have hSv:=h1.2 v hv;simp only[Function.comp,m8,h.ty v hSv,h.arc v hSv,List.map_map];congr 1;refine List.map_congr_left fun a ha=>?_;have hSa:=h.clo v hSv a ha;simp only[Function.comp,m7];rw[qw5 fun u hu e=>h.inj u a.To (h1.2 u hu) hSa e]
def z7t{l:V aG}(h:lY l):vT l=l:=z7u h.dis (List.Perm.refl _) h
def ic{o:V Int}{v:Int}(h:v∈o):o[o.idxOf v]? = some v:=by have h1:=List.idxOf_lt_length_of_mem h;rw[List.getElem?_eq_getElem h1,List.getElem_idxOf]
structure qb(f:GFS)(r:Int)(c:GFS):Prop where
 len:c.Nodes.length=(tD f r).length
 le:c.Nodes.length<=f.Nodes.length
 pos:0<c.Nodes.length
 ok:wJ c
 at_:∀v∈tD f r,nd c ((tD f r).idxOf v:Int)=m8 f (tD f r) v
 up:∀x∈c.Nodes,lY x.Arcs
 sim:rQ f c (fun v=>((tD f r).idxOf v:Int)) (fun v=>v∈tD f r)
def VZ{o:V Int}{l:V aG}(h:lY l):lY (l.map (m7 o)):=by unfold lY at*;rw[List.pairwise_map];exact h
def z4f(hf:wJ f)(hr:sO f r):qb f r (nR f r):=by
 obtain⟨o1,_⟩:=XT hf hr;have pE:∀v∈tD f r,nd (nR f r) ((tD f r).idxOf v:Int)=m8 f (tD f r) v:=fun v hv=>by simp only[nd,nR,zZ,List.getElem?_map,ic hv,zM,Option.getD_some]
 have iS:∀v∈tD f r,sO f v:=o1.seen.ing;have JY:∀v∈tD f r,lY (m8 f (tD f r) v).Arcs:=fun v hv=>VZ (Fl (hf _ (R5 (iS v hv)).2).dis);refine⟨by simp[nR],by simp only[nR,yA];exact o1.seen.len,?_,?_,pE,?_,?_⟩;obtain⟨t,ht⟩:=o1.head;simp[nR,ht];intro x hx;simp only[nR,List.mem_map]at hx;obtain⟨v,hv,rfl⟩:=hx;have hn:=hf _ (R5 (iS v hv)).2;refine⟨hn.ty,(JY v hv).dis,fun a ha=>?_⟩;simp only[m8,List.mem_map]at ha;obtain⟨b,hb,rfl⟩:=ha;have cP:=FA.1 hb;refine⟨(hn.arc b cP).1,by simp only[m7];omega,?_⟩;have:=List.idxOf_lt_length_of_mem (o1.clo v hv b cP);simp only[m7,nR,yA];omega;intro x hx;simp only[nR,List.mem_map]at hx;obtain⟨v,hv,rfl⟩:=hx;exact JY v hv;refine⟨fun v hv a ha=>o1.clo v hv a (FA.1 ha),fun u v hu hv e=>?_,fun v hv=>?_,fun v hv=>?_⟩;have h1:=ic hu;have h2:=ic hv;have e':(tD f r).idxOf u=(tD f r).idxOf v:=Int.ofNat.inj e;rw[e',h2]at h1;exact(Option.some.inj h1).symm;simp only[pE v hv,m8];simp only[jI,pE v hv];rw[z7t (JY v hv)];rfl
def cJ.canon{k:Nat}(hs:cJ f k)(hf:wJ f)(hr:sO f r):cJ (nR f r) k:=by have hc:=z4f hf hr;obtain⟨o1,_⟩:=XT hf hr;refine⟨Nat.le_trans hc.le hs.nodes,fun x hx=>?_⟩;simp only[nR,List.mem_map]at hx;obtain⟨v,hv,rfl⟩:=hx;simp only[m8,yA,jI];rw[(J7 _).length_eq];exact hs.arcs _ (R5 (o1.seen.ing v hv)).2
def qsj{N:Nat}:∀{l:V aG}{s s':V Int},(∀x,x∈s↔x∈s')->EP N s l=EP N s' l
 |[],s,s',_=>rfl|a::l,s,s',h=>by simp only[EP];rw[qsj (l:=l) (s:=a.Feat::s) (s':=a.Feat::s') fun x=>by simp only[zI,h x]];by_cases h1:a.Feat∈s;simp only[h1,(h _).1 h1,if_true];simp only[h1,mt (h _).2 h1,if_false]
def z3w{l:V aG}(hl:l.length<=1000000){i:Nat}{x:aG}(hx:l[i]? = some x)(hi:i<l.length){rc:Int->M Int}:∀(m k:Nat),i-k<m->k<=i->
  Qe l i rc m k=if x.Feat∈((l.take i).drop k).map aG.Feat then some 4 else rc (IntKind.i64.wrap ((i:Int)+1))
 |0,k,hm,_=>by omega
 |m+1,k,hm,hk=>by
  unfold Qe;by_cases aF:k<i;obtain⟨y,hy,_⟩:=eA (l:=l) (i:=k) (by omega);have JX:(l.take i)[k]? = some y:=by rw[List.getElem?_take_of_lt aF];exact hy
  have hd:decide ((k:Int)<(i:Int))=true:=gP aF;have hw:IntKind.i64.wrap ((k:Int)+1)=((k+1:Nat):Int):=DD (by omega) (by omega);simp only[hd,zC,cH,hy,hx,aP,aV JX,zQ,zI,hw];by_cases e:y.Feat=x.Feat;simp[e];have e2:(y.Feat==x.Feat)=false:=by simpa using e
  have e3:¬ x.Feat=y.Feat:=fun h=>e h.symm;simp only[e2,zD,e3,false_or];exact z3w hl hx hi m (k+1) (by omega) (by omega);have hd:decide ((k:Int)<(i:Int))=false:=hX aF;have:(l.take i).drop k=[]:=List.drop_eq_nil_of_le (by simp;omega);simp only[hd,zD,yt,this,List.map_nil,List.not_mem_nil,if_false]
def z3v{l:V aG}{N n:Nat}(hl:l.length<=1000000)(hn:l.length<n):∀(m i:Nat),l.length-i<m->i<=l.length->S7 l N n m i=some (EP N ((l.take i).map aG.Feat) (l.drop i))
 |0,i,hm,_=>by omega
 |m+1,i,hm,hi=>by
  unfold S7;by_cases aF:i<l.length;obtain⟨a,ha,_⟩:=eA aF;have h2:=z3w hl ha aF (rc:=S7 l N n m) n 0 (by omega) (by omega);rw[zV,List.drop_zero]at h2;simp only[gP aF,zC,cH,ha,aP,aV ha,EP];by_cases h1:a.Feat<0;simp[h1,aP];by_cases h3:a.To<0;simp[h1,h3,aP];by_cases h4:a.To>=(N:Int);simp[h1,h3,h4,aP];simp only[h1,h3,h4,yB,zD,aP,or_self,if_false,h2,iF aF (show l.length<=9223372036854775807 by omega)];rw[z3v hl hn m (i+1) (by omega) (by omega),iY ha];by_cases h5:a.Feat∈(l.take i).map aG.Feat;simp only[h5,if_true];simp only[h5,if_false];congr 1;exact qsj fun x=>by simp[or_comm]
  simp only[hX aF,zD,rz,bQ aF,EP]
def z5c{f:GFS}{k:Nat}(hf:cJ f k)(hk:k<=1000000){n:Nat}(hn:k<n):∀(m i:Nat),f.Nodes.length-i<m->i<=f.Nodes.length->Qd f n m i=some (Q7 f.Nodes.length (f.Nodes.drop i))
 |0,i,hm,_=>by omega
 |m+1,i,hm,hi=>by
  have vA:=hf.nodes;unfold Qd;by_cases aF:i<f.Nodes.length;obtain⟨x,hx,fT⟩:=eA aF;have qN:=hf.arcs x fT;have h2:=z3v (l:=x.Arcs) (N:=f.Nodes.length) (n:=n) (by omega) (by omega) n 0 (by omega) (by omega);rw[zV,List.drop_zero,List.take_zero,List.map_nil]at h2;simp only[gP aF,zC,cH,hx,aP,aV hx,Q7,G9,jv,h2,iF aF (show f.Nodes.length<=9223372036854775807 by omega)];by_cases h1:x.Typex<0;simp[h1];simp only[h1,yB,zD,if_false];by_cases h3:EP f.Nodes.length [] x.Arcs=0;simp only[h3,bne_self_eq_false,zD,ne_eq,not_true,if_false];exact z5c hf hk hn m (i+1) (by omega) (by omega);have hb:(EP f.Nodes.length [] x.Arcs != 0)=true:=by simpa using h3
  simp only[hb,zC,h3,ne_eq,not_false_eq_true,if_true];simp only[hX aF,zD,ru,bQ aF,Q7]
variable{f:GFS}
variable{k:Nat}
variable{n:Nat}
def zd0(hf:cJ f k)(hk:k<=1000000)(hn:k<n):vj n f=some (I4 f):=by
 have vA:=hf.nodes;unfold vj I4;by_cases h0:f.Nodes.length=0;simp[h0];have e0:((f.Nodes.length:Int)==0)=false:=by simp;intro h;simp[h]at h0
 simp only[e0,zD,h0,if_false];by_cases h1:f.Nodes.length>4096;have:(f.Nodes.length:Int)>4096:=by omega
 simp[h1,this];have:¬ (f.Nodes.length:Int)>4096:=by omega
 simp only[h1,this,yB,zD,if_false];have h:=z5c hf hk hn n 0 (by omega) (by omega);rw[zV,List.drop_zero]at h;exact h
def zbm{l:V aG}{i:Nat}{x:aG}(hx:l[i]? = some x){out:V aG}(A6:out.length<=1000000)(JY:lY out){rc:Int->V aG->M (V aG)}:∀(m p:Nat),p<m->p<=out.length->(∀a∈out.drop p,x.Feat<a.Feat)->
  ∃q,q<=out.length/\Rf l i out rc m p=Rg l i out rc (q:Int)/\(∀a∈out.drop q,x.Feat<a.Feat)/\(∀a∈out.take q,a.Feat<=x.Feat)
 |0,p,hm,_,_=>by omega
 |m+1,p,hm,hp,hd=>by
  unfold Rf;cases p with
  |zero=>
   have:¬ ((0:Nat):Int)>0:=by omega
   simp only[this,yB,zD,aP];exact⟨0,by omega,rfl,hd,by simp⟩
  |succ p=>
   have h0:((p+1:Nat):Int)>0:=by omega
   have hw:IntKind.i64.wrap (((p+1:Nat):Int)-1)=(p:Int):=DD (by omega) (by omega);obtain⟨y,hy,_⟩:=eA (l:=out) (i:=p) (by omega);simp only[h0,yC,zC,hw,cH,hy,hx,aP];by_cases e:y.Feat>x.Feat;simp only[e,yC,zC];refine zbm hx A6 JY m p (by omega) (by omega) fun a ha=>?_;rw[aV hy]at ha;rcases zI.1 ha with rfl |ha
   omega;exact hd a ha;simp only[e,yB,zD];refine⟨p+1,hp,rfl,hd,fun a ha=>?_⟩;obtain⟨j,hj,rfl⟩:=List.mem_iff_getElem.1 ha;simp only[List.length_take]at hj;rw[List.getElem_take];obtain⟨FX,ey⟩:=zG.1 hy;by_cases ej:j=p;subst ej;rw[ey];omega;have:=List.pairwise_iff_getElem.1 JY j p (by omega) FX (by omega);rw[ey]at this;omega
def ZU{l:V aG}{i:Nat}{x:aG}(hx:l[i]? = some x){out:V aG}(A6:out.length<=1000000){rc:Int->V aG->M (V aG)}{q:Nat}(hq:q<=out.length):
  Rg l i out rc (q:Int)=rc (IntKind.i64.wrap ((i:Int)+1)) (out.take q++x::out.drop q):=by
 have e1:(out.drop 0).take ((q:Int)).toNat=out.take q:=by rw[List.drop_zero,zZ]
 have e2:(out.drop (0+((q:Int)).toNat)).take (out.length-((q:Int)).toNat)=out.drop q:=by rw[zZ,Nat.zero_add,zW (by simp)]
 have l1:(out.take q).length=q:=by simp;omega
 have n1:(0:Int)<=(q:Int)/\(q:Int)<=((out.length:Nat):Int):=by omega
 have n2:0+((q:Int)).toNat<=out.length:=by rw[zZ];omega
 have n3:(out.take q).length*16<=140737488355328/\(out.take q).length<=140737488355328:=by omega
 have n4:((out.take q).length+1)*16<=140737488355328/\(out.take q).length+1<=140737488355328:=by omega
 have n5:(0+((q:Int)).toNat)+(out.length-((q:Int)).toNat)<=out.length:=by rw[zZ];omega
 have n6:((out.take q++[x]).length+(out.drop q).length)*16<=140737488355328/\(out.take q++[x]).length+(out.drop q).length<=140737488355328:=by simp;omega
 unfold Rg;simp only[aH,e1,e2,cH,hx,aP];rw[if_pos n1,if_pos n2,if_pos n3,if_pos n4,if_pos n1,if_pos n5,if_pos n6];simp
def zbl{l:V aG}(hl:l.length<=1000000)(hd:mN l){n:Nat}(hn:l.length<n):∀(m i:Nat),l.length-i<m->i<=l.length->SK l n m i (vT (l.take i))=some (vT l)
 |0,i,hm,_=>by omega
 |m+1,i,hm,hi=>by
  have hdi:mN (l.take i):=hd.sublist (List.take_sublist i l);have A6:(vT (l.take i)).length=i:=by rw[(J7 _).length_eq];simp;omega
  unfold SK;by_cases aF:i<l.length;obtain⟨x,hx,_⟩:=eA aF;obtain⟨q,q1,q2,q3,q4⟩:=zbm hx (out:=vT (l.take i)) (by omega) (Fl hdi) (rc:=SK l n m) n (vT (l.take i)).length (by omega) (zF _) (by simp);simp only[gP aF,zC,q2,ZU hx (show(vT (l.take i)).length<=1000000 by omega) q1,iF aF (show l.length<=9223372036854775807 by omega)];have Bd:mN (l.take (i+1)):=hd.sublist (List.take_sublist _ l);have E8:((vT (l.take i)).take q++x::(vT (l.take i)).drop q).Perm (l.take (i+1)):=by rw[iY hx];refine List.perm_middle.trans ?_;rw[List.take_append_drop];exact((J7 (l.take i)).cons x).trans (List.perm_append_comm (l₁:=[x]) (l₂:=l.take i))
  have d5:∀a∈vT (l.take i),a.Feat≠x.Feat:=fun a ha e=>by rw[iY hx]at Bd;have:=(List.pairwise_append.1 Bd).2.2 a ((J7 _).mem_iff.1 ha) x (by simp);exact this e
  have JY:lY ((vT (l.take i)).take q++x::(vT (l.take i)).drop q):=by have h0:=Fl hdi;unfold lY at*;rw[List.pairwise_append];refine⟨h0.sublist (List.take_sublist _ _),List.pairwise_cons.2 ⟨q3,h0.sublist (List.drop_sublist _ _)⟩,fun a ha b hb=>?_⟩;have h1:=q4 a ha;have h2:=d5 a (List.mem_of_mem_take ha);rcases zI.1 hb with rfl |hb;omega;have:=q3 b hb;omega
  rw[<-z7u Bd E8 JY];exact zbl hl hd hn m (i+1) (by omega) (by omega);simp only[hX aF,zD,L_];rw[zW (by omega)]
def qoy{l:V aG}(hl:l.length<=1000000)(hd:mN l)(hn:l.length<n):Pb n l=some (vT l):=by have h:=zbl hl hd hn n 0 (by omega) (by omega);rw[zV,List.take_zero]at h;exact h
structure LV(f:GFS)(w:V Int)(o:V Int):Prop where
 len:w.length=f.Nodes.length
 get:∀x,sO f x->aC w x=some (if x∈o then(o.idxOf x:Int)else -1)
def LV.snoc{w o:V Int}(h:LV f w o){v:Int}(hv:sO f v)(hn:v ∉ o):LV f (w.set (0+v.toNat) (o.length:Int)) (o++[v]):=by
 refine⟨by simp[h.len],fun x hx=>?_⟩;have nV:v.toNat<w.length:=by rw[h.len];have:=hv.1;have:=hv.2;omega
 have hc:0<=x/\x<((w.set (0+v.toNat) (o.length:Int)).length:Int):=by rw[List.length_set,h.len];exact hx
 have h2:=h.get x hx;have Jl:0<=x/\x<(w.length:Int):=by rw[h.len];exact hx
 rw[aC,if_pos Jl]at h2;rw[aC,if_pos hc,Nat.zero_add];by_cases e:x=v;subst e;simp[List.idxOf_append,hn,nV];rw[List.getElem?_set_ne (by have:=hx.1;have:=hv.1;omega),h2];by_cases ZZ:x∈o;simp[ZZ,List.idxOf_append];simp[ZZ,e]
def qxj{f:GFS}{k:Nat}(hg:wJ f)(hf:cJ f k)(hk:k<=1000000):∀(n:Nat)(o:V Int)(v:Int)(w:V Int),Seen f o->sO f v->v ∉ o->LV f w o->f.Nodes.length-o.length+k+2<=n->
  ∃w',OQ n v f.Nodes w o=some (w',dfs f n o v)/\LV f w' (dfs f n o v)
 |0,o,v,w,hs,hv,hn,hw,Jj=>by omega
 |n+1,o,v,w,hs,hv,hn,hw,Jj=>by
  have xF:=hs.snoc hv hn;have vC:=xF.len;simp only[zU,zO,zS]at vC;obtain⟨hx,fT⟩:=R5 hv;have fD:=hg _ fT;have qN:=hf.arcs _ fT;have vA:=hf.nodes;have FV:(jI f v).length=(nd f v).Arcs.length:=(J7 _).length_eq;have key:∀(m i:Nat)(p:V Int)(w:V Int),(jI f v).length-i<m->i<=(jI f v).length->Seen f p->o.length+1<=p.length->LV f w p->
    ∃w',YY f.Nodes (jI f v) (OQ n) m i w p=some (w',((jI f v).drop i).foldl (lU (dfs f n)) p)/\LV f w' (((jI f v).drop i).foldl (lU (dfs f n)) p):=by
   intro m;induction m with
   |zero=>intro i p w hm;omega|succ m ih=>
    intro i p w hm hi hp kI hw;unfold YY;by_cases aF:i<(jI f v).length;obtain⟨a,ha,tX⟩:=eA aF;have h1:=fD.arc a (FA.1 tX);have hia:sO f a.To:=⟨h1.2.1,h1.2.2⟩;have P1:IntKind.i64.wrap ((i:Int)+1)=((i+1:Nat):Int):=iF aF (by omega);simp only[gP aF,zC,cH,ha,aP,hw.get _ hia,aV ha,List.foldl_cons];by_cases AA:a.To∈p;have Aj:¬ ((p.idxOf a.To:Nat):Int)<0:=by omega
    simp only[AA,if_true,Aj,yB,zD,Ij,P1,lU];exact ih (i+1) p w (by omega) (by omega) hp kI hw;have Aj:(-1:Int)<0:=by decide
    simp only[AA,if_false,Aj,yC,zC,Ij,P1,lU];obtain⟨w1,g1,g2⟩:=qxj hg hf hk n p a.To w hp hia AA hw (by omega);obtain⟨d1,⟨t,d2⟩,_,_⟩:=Mt hg n p a.To hp hia AA (by omega);simp only[g1,aP];exact ih (i+1) _ w1 (by omega) (by omega) d1 (by rw[d2];simp;omega) g2;rw[bQ aF];simp only[hX aF,zD,q?,List.foldl_nil];exact⟨w,rfl,hw⟩
  have oP:(o.length+1)*8<=140737488355328/\o.length+1<=140737488355328:=by omega
  obtain⟨w',g1,g2⟩:=key n 0 (o++[v]) _ (by omega) (by omega) xF (by simp) (hw.snoc hv hn);rw[zV,List.drop_zero]at g1;rw[List.drop_zero]at g2;refine⟨w',?_,g2⟩;show ut n (OQ n) v f.Nodes w o=_;simp only[ut,hw.get _ hv,aH,oP,and_self,if_true,hx,aP,qoy (show(nd f v).Arcs.length<=1000000 by omega) fD.dis (show(nd f v).Arcs.length<n by omega)];exact g1
def z5h{f:GFS}{o w:V Int}{z:Int}{l27:V aJ}{rc:Int->V aJ->M GFS}{x:aJ}{l:V aG}(hl:l.length<=1000000)(hw:LV f w o)(iS:∀a∈l,a.To∈o)(Vj:∀v∈o,sO f v):∀(m i:Nat),l.length-i<m->i<=l.length->
  Hf (w,o) z l27 rc x m i ((l.take i).map (m7 o)++l.drop i)=mc z l27 rc x (l.map (m7 o))
 |0,i,hm,_=>by omega
 |m+1,i,hm,hi=>by
  unfold Hf;have aZ:((l.take i).map (m7 o)++l.drop i).length=l.length:=by simp;omega
  rw[aZ];by_cases aF:i<l.length;obtain⟨a,ha,tX⟩:=eA aF;have e1:(((l.take i).map (m7 o)++l.drop i))[i]? = some a:=by rw[List.getElem?_append_right (by simp;omega)];simp[show min i l.length=i by omega,ha]
  have e2:(((l.take i).map (m7 o)++l.drop i)).set (0+(i:Int).toNat) (m7 o a)=(l.take (i+1)).map (m7 o)++l.drop (i+1):=by
   rw[aV ha,iY ha];have h3:((l.take i).map (m7 o)).length=i:=by simp;omega
   have:=bo ((l.take i).map (m7 o)) (l.drop (i+1)) a (m7 o a);rw[h3]at this;rw[Nat.zero_add,zZ,this,List.map_append,zQ,List.map_nil,zT];rfl
  have tK:=iS a tX;have e3:(⟨a.Feat,(o.idxOf a.To:Int)⟩:aG)=m7 o a:=rfl;simp only[gP aF,zC,cH,e1,aP,hw.get _ (Vj _ tK),tK,if_true,e3,e2,iF aF (show l.length<=9223372036854775807 by omega)];exact z5h hl hw iS Vj m (i+1) (by omega) (by omega);simp only[hX aF,zD];rw[zW (by omega),List.drop_eq_nil_of_le (by omega),List.append_nil]
def z5g{f:GFS}{k:Nat}(hg:wJ f)(hf:cJ f k)(hk:k<=1000000){n:Nat}(hn:k+2<=n){r:Int}{o w:V Int}(ho:bk f r o)(hw:LV f w o):∀(m i:Nat),o.length-i<m->i<=o.length->
  S8 f n (w,o) m i ((o.take i).map (m8 f o))=some ⟨o.map (m8 f o)⟩
 |0,i,hm,_=>by omega
 |m+1,i,hm,hi=>by
  have A6:=ho.seen.len;have vA:=hf.nodes;unfold S8;by_cases aF:i<o.length;obtain⟨v,hv,Iu⟩:=eA aF;obtain⟨hx,fT⟩:=R5 (ho.seen.ing v Iu);have fD:=hg _ fT;have qN:=hf.arcs _ fT;have FV:(jI f v).length=(nd f v).Arcs.length:=(J7 _).length_eq;have h2:=z5h (z:=(i:Int)) (l27:=(o.take i).map (m8 f o)) (rc:=S8 f n (w,o) m) (x:=nd f v) (l:=jI f v) (by omega) hw (fun a ha=>ho.clo v Iu a (FA.1 ha)) ho.seen.ing n 0 (by omega) (by omega);rw[zV,List.take_zero,List.map_nil,List.nil_append,List.drop_zero]at h2;have oP:(((o.take i).map (m8 f o)).length+1)*32<=140737488355328/\((o.take i).map (m8 f o)).length+1<=140737488355328:=by simp;omega
  have hso:=qoy (show(nd f v).Arcs.length<=1000000 by omega) fD.dis (show(nd f v).Arcs.length<n by omega);simp only[gP aF,zC,cH,hv,hx,aP,hso];show Hf (w,o) i _ _ (nd f v) n 0 (jI f v)=_;rw[h2];simp only[mc,aH];rw[if_pos oP,iF aF (show o.length<=9223372036854775807 by omega)];have:=z5g hg hf hk hn ho hw m (i+1) (by omega) (by omega);rw[iY hv]at this;simpa[m8,jI]using this;simp only[hX aF,zD,a_];rw[zW (by omega)]
def z5f{f:GFS}(hN:f.Nodes.length<=1000000){r:Int}{n:Nat}:∀(m i:Nat),f.Nodes.length-i<m->i<=f.Nodes.length->Qf f r n m i (List.replicate i (-1))=me f r n (List.replicate f.Nodes.length (-1))
 |0,i,hm,_=>by omega
 |m+1,i,hm,hi=>by
  unfold Qf;by_cases aF:i<f.Nodes.length;have oP:((List.replicate i (-1:Int)).length+1)*8<=140737488355328/\(List.replicate i (-1:Int)).length+1<=140737488355328:=by simp;omega
  have e:List.replicate i (-1:Int)++[-1]=List.replicate (i+1) (-1):=by rw[List.replicate_succ']
  simp only[gP aF,zC,aH];rw[if_pos oP,iF aF (show f.Nodes.length<=9223372036854775807 by omega),e];exact z5f hN m (i+1) (by omega) (by omega);simp only[hX aF,zD];rw[show i=f.Nodes.length by omega]
def z5i(hg:wJ f)(hf:cJ f k)(hk:k<=1000000){r:Int}(hr:sO f r)(hn:2*k+4<=n):Gq n f r=some (nR f r):=by
 obtain⟨ho,cK⟩:=XT hg hr;have vA:=hf.nodes;have h0:LV f (List.replicate f.Nodes.length (-1)) []:=⟨by simp,fun x hx=>by
  have hc:0<=x/\x<((List.replicate f.Nodes.length (-1:Int)).length:Int):=by rw[List.length_replicate];exact hx
  rw[aC,if_pos hc];have:x.toNat<f.Nodes.length:=by have:=hx.1;have:=hx.2;omega
  simp[this]⟩
 obtain⟨w,g1,g2⟩:=qxj hg hf hk n [] r _ (Seen.nil f) hr (by simp) h0 (by simp;omega);rw[cK n (by omega)]at g1 g2;have A6:=ho.seen.len;have h1:=z5g hg hf hk (show k+2<=n by omega) ho g2 n 0 (by omega) (by omega);rw[zV,List.take_zero,List.map_nil]at h1;have h2:=z5f (f:=f) (by omega) (r:=r) (n:=n) n 0 (by omega) (by omega);rw[zV,List.replicate_zero]at h2;simp only[Gq,h2,me,g1,aP,h1,nR]
def qz1(hf:cJ f k)(hk:k<=1000000)(hn:2*k+4<=n):yj n f=some (if I4 f=0 then(nR f 0,0)else(⟨[]⟩,I4 f)):=by
 simp only[yj,zd0 hf hk (show k<n by omega),aP];by_cases he:I4 f=0;obtain⟨e1,e2,e3⟩:=qvu.1 he;simp[he,z5i e3 hf hk (r:=0) ⟨by omega,by omega⟩ hn,aP];have hb:(I4 f != 0)=true:=by simpa using he
 simp[he,hb]
end Go.Proofs
namespace Go.Proofs
open Go Go.Rx Go.Vx
def xW(l:V aG)(f:Int):D1:=l.any (fun x=>x.Feat==f)
variable{f:Int}
def MH{l:V aG}:xW l f=true↔∃x∈l,x.Feat=f:=by simp[xW]
def nN(a b:V aG):V aG:=b.filter fun y=>!xW a y.Feat
def prs(a b:V aG):V (Int×Int):=b.filterMap fun y=>(a.find? fun x=>x.Feat==y.Feat).map fun x=>(x.To,y.To)
structure rR(a b out:V aG):Prop where
 up:lY out
 pm:out.Perm (a++nN a b)
variable{a:V aG}
variable{b:V aG}
variable{o:V aG}
def rR.uniq{o':V aG}(h:rR a b o)(h':rR a b o'):o=o':=aq h.up h'.up (h.pm.trans h'.pm.symm)
variable{x:aG}
def z58(hd:mN a)(hx:x∈a)(hf:x.Feat=f):a.find? (fun x=>x.Feat==f)=some x:=by
 have key:∀o,a.find? (fun x=>x.Feat==f)=o->o=some x:=by intro o h;rcases o with _|y;have:=List.find?_eq_none.1 h x hx;simp[hf]at this;have h1:=List.find?_some h;have h2:=List.mem_of_find?_eq_some h;simp at h1;rw[hd.eq y h2 x hx (by omega)]
 exact key _ rfl
def z59(h:∀x∈a,x.Feat≠f):a.find? (fun x=>x.Feat==f)=none:=by rw[List.find?_eq_none];intro x hx;simpa using h x hx
def ft(a b:V aG)(y:aG):nN a (b++[y])=nN a b++(if xW a y.Feat then[]else[y]):=by unfold nN;rw[List.filter_append];cases h:xW a y.Feat<;>simp[h]
def qra(hd:mN a){y:aG}(hx:x∈a)(hf:x.Feat=y.Feat):prs a (b++[y])=prs a b++[(x.To,y.To)]:=by simp[prs,List.filterMap_append,z58 hd hx hf]
def qot{y:aG}(h:∀x∈a,x.Feat≠y.Feat):prs a (b++[y])=prs a b:=by simp[prs,List.filterMap_append,z59 h]
def Fs(a:V aG):∀b:V aG,(nN a b).length+(prs a b).length=b.length
 |[]=>rfl|y::b=>by
  have ih:=Fs a b;unfold nN prs at*;cases h:a.find? (fun x=>x.Feat==y.Feat)with
  |none=>
   have h2:xW a y.Feat=false:=by rw[List.find?_eq_none]at h;rw[Bool.eq_false_iff];intro e;obtain⟨x,hx,he⟩:=MH.1 e;have:=h x hx;simp[he]at this
   simp only[List.filter_cons,h2,Bool.not_false,if_true,List.filterMap_cons,h,Option.map_none,zO];omega
  |some x=>have h2:xW a y.Feat=true:=MH.2 ⟨x,List.mem_of_find?_eq_some h,by have:=List.find?_some h;simpa using this⟩;simp only[List.filter_cons,h2,Bool.not_true,Bool.false_eq_true,if_false,List.filterMap_cons,h,zM,zO];omega
def S'{p:Int×Int}(h:p∈prs a b):∃x∈a,∃y∈b,x.Feat=y.Feat/\p=(x.To,y.To):=by obtain⟨y,hy,e⟩:=List.mem_filterMap.1 h;rcases h1:a.find? (fun x=>x.Feat==y.Feat)with _|x;rw[h1]at e;cases e;rw[h1]at e;have h2:=List.find?_some h1;exact⟨x,List.mem_of_find?_eq_some h1,y,hy,by simpa using h2,(Option.some.inj e).symm⟩
def rR.len(h:rR a b o):o.length+(prs a b).length=a.length+b.length:=by have h1:=h.pm.length_eq;have h2:=Fs a b;rw[zU]at h1;omega
def rR.mem(h:rR a b o)(hx:x∈o):x∈a\/x∈b:=by rcases yD.1 (h.pm.mem_iff.1 hx)with h1 |h1;exact Or.inl h1;exact Or.inr (List.mem_filter.1 h1).1
def J2:V aG->V aG->V aG
 |[],b=>b|a,[]=>a
 |x::a,y::b=>if x.Feat<y.Feat then x::J2 a (y::b)else if y.Feat<x.Feat then y::J2 (x::a) b else x::J2 a b
termination_by a b=>a.length+b.length
def za2(b:V aG):nN [] b=b:=by simp[nN,xW]
def z6g(h:∀y∈b,x.Feat≠y.Feat):nN (x::a) b=nN a b:=by unfold nN;apply List.filter_congr;intro y hy;have:=h y hy;simp[xW,this]
def rR.step(h:rR a b o)(hx:∀y∈o,x.Feat<y.Feat)(hb:∀y∈b,x.Feat≠y.Feat):rR (x::a) b (x::o):=
 ⟨List.pairwise_cons.2 ⟨hx,h.up⟩,by rw[z6g hb];exact h.pm.cons x⟩
def Y5:∀(a b:V aG),lY a->lY b->rR a b (J2 a b)
 |[],b,_,hb=>by rw[J2];exact⟨hb,by rw[za2];exact .refl _⟩
 |x::a,[],ha,_=>by rw[J2];exact⟨ha,by simp[nN]⟩;intro h;cases h
 |x::a,y::b,ha,hb=>by
  obtain⟨h1,h2⟩:=List.pairwise_cons.1 ha;obtain⟨h3,h4⟩:=List.pairwise_cons.1 hb;rw[J2];by_cases e1:x.Feat<y.Feat;rw[if_pos e1];have ih:=Y5 a (y::b) h2 hb;have hyb:∀z∈y::b,x.Feat<z.Feat:=fun z hz=>by rcases zI.1 hz with rfl |hz;exact e1;have:=h3 z hz;omega
  refine ih.step (fun z hz=>?_) (fun z hz=>by have:=hyb z hz;omega);rcases ih.mem hz with hz |hz;exact h1 z hz;exact hyb z hz;rw[if_neg e1];by_cases e2:y.Feat<x.Feat;rw[if_pos e2];have ih:=Y5 (x::a) b ha h4;have su:∀z∈x::a,y.Feat<z.Feat:=fun z hz=>by rcases zI.1 hz with rfl |hz;exact e2;have:=h1 z hz;omega
  refine⟨List.pairwise_cons.2 ⟨fun z hz=>?_,ih.up⟩,?_⟩;rcases ih.mem hz with hz |hz;exact su z hz;exact h3 z hz;have e:nN (x::a) (y::b)=y::nN (x::a) b:=by
   have:xW (x::a) y.Feat=false:=by rw[Bool.eq_false_iff];intro h;obtain⟨z,hz,e⟩:=MH.1 h;have:=su z hz;omega
   unfold nN;simp[List.filter_cons,this]
  rw[e];exact(ih.pm.cons y).trans List.perm_middle.symm;rw[if_neg e2];have e:x.Feat=y.Feat:=by omega
  have ih:=Y5 a b h2 h4;have h5:=ih.step (x:=x) (fun z hz=>by rcases ih.mem hz with hz |hz;exact h1 z hz;have:=h3 z hz;omega) (fun z hz=>by have:=h3 z hz;omega);refine⟨h5.up,h5.pm.trans ?_⟩;have:nN (x::a) (y::b)=nN (x::a) b:=by have:xW (x::a) y.Feat=true:=MH.2 ⟨x,by simp,e⟩;unfold nN;simp[List.filter_cons,this]
  rw[this]
 termination_by a b=>a.length+b.length
def z6w(a:V aG):prs a []=[]:=rfl
variable{a:V aG}
def rR.nilr(ha:lY a):rR a [] a:=⟨ha,by simp[nN]⟩
def rR.inn{b o:V aG}{x y:aG}(h:rR a b o)(hx:x∈a)(e:x.Feat=y.Feat):rR a (b++[y]) o:=⟨h.up,by
 have:xW a y.Feat=true:=MH.2 ⟨x,hx,e⟩;rw[ft,this];simpa using h.pm⟩
def rR.out{b o:V aG}{y:aG}{k:Nat}(h:rR a b o)(h1:∀z∈o.take k,z.Feat<y.Feat)(h2:∀z∈o.drop k,y.Feat<z.Feat):rR a (b++[y]) (o.take k++y::o.drop k):=by
 have hu:=h.up;rw[<-List.take_append_drop k o]at hu;obtain⟨u1,u2,u3⟩:=List.pairwise_append.1 hu;have hn:xW a y.Feat=false:=by rw[Bool.eq_false_iff];intro e;obtain⟨z,hz,e⟩:=MH.1 e;have hz:z∈o:=h.pm.mem_iff.2 (List.mem_append_left _ hz);rw[<-List.take_append_drop k o]at hz;rcases yD.1 hz with hz |hz;have:=h1 z hz;omega;have:=h2 z hz;omega
 refine⟨List.pairwise_append.2 ⟨u1,List.pairwise_cons.2 ⟨h2,u2⟩,fun z hz w hw=>?_⟩,?_⟩;rcases zI.1 hw with rfl |hw;exact h1 z hz;exact u3 z hz w hw;rw[ft,hn];refine List.perm_middle.trans ?_;rw[List.take_append_drop];have:(y::o).Perm (y::(a++nN a b)):=h.pm.cons y;refine this.trans ?_;simp only[Bool.false_eq_true,if_false];rw[<-zT];exact(List.perm_append_singleton y _).symm
structure Ei(N D:Nat)(aA d:Nat->Nat):Prop where
 lt:∀i,i<N->aA i<N
 idem:∀i,i<N->aA (aA i)=aA i
 zero:∀i,i<N->d (aA i)=0
 bd:∀i,i<N->d i<=D
def hJ(aA:Nat->Nat)(m n i:Nat):Nat:=if aA i=n then m else aA i
def GL(aA d:Nat->Nat)(n i:Nat):Nat:=if aA i=n then d i+1 else d i
def My(N:Nat)(aA d:Nat->Nat)(i j:Nat):Prop:=j<N/\aA j=aA i/\d j<d i
structure wb(cells:V aT)(N:Nat)(aA d:Nat->Nat):Prop where
 root:∀(i:Nat)(c:aT),cells[i]? = some c->aA i=i->c.forward= -1
 fwd:∀(i:Nat)(c:aT),cells[i]? = some c->aA i≠i->∃j:Nat,c.forward=(j:Int)/\My N aA d i j
variable{N:Nat}
variable{D:Nat}
variable{aA:Nat->Nat}
variable{d:Nat->Nat}
variable{m:Nat}
variable{n:Nat}
def Ei.mrg(h:Ei N D aA d)(hm:m<N)(em:aA m=m)(en:aA n=n)(wE:m≠n):Ei N (D+1) (hJ aA m n) (GL aA d n) where
 lt i hi:=by unfold hJ;split;exact hm;exact h.lt i hi
 idem i hi:=by have h1:=h.idem i hi;unfold hJ;by_cases e:aA i=n;simp[e,em,wE];simp[e,h1]
 zero i hi:=by have h1:=h.idem i hi;have h2:=h.zero i hi;have h3:=h.zero m hm;unfold hJ GL;rw[em]at h3;by_cases e:aA i=n;simp[e,em,wE,h3];simp[e,h1,h2]
 bd i hi:=by have:=h.bd i hi;unfold GL;split<;>omega
variable{i:Nat}
def My.mrg{D:Nat}{j:Nat}(h:My N aA d i j):My N (hJ aA m n) (GL aA d n) i j:=by obtain⟨h1,h2,h3⟩:=h;refine⟨h1,by simp[hJ,h2],?_⟩;unfold GL;rw[h2];split<;>omega
def z9t(h:Ei N D aA d)(hm:m<N)(hn:n<N)(em:aA m=m)(en:aA n=n)(wE:m≠n):My N (hJ aA m n) (GL aA d n) n m:=by have h3:=h.zero m hm;have h4:=h.zero n hn;rw[em]at h3;rw[en]at h4;refine⟨hm,by simp[hJ,em,en,wE],?_⟩;simp[GL,em,en,wE,h3,h4]
def RP{v11:Type}{l:V v11}{k:Nat}{x y:v11}(h:(l.set k x)[i]? = some y):(i=k/\y=x)\/(i≠k/\l[i]? = some y):=by rw[List.getElem?_set]at h;by_cases e:k=i;rw[if_pos e]at h;split at h;exact Or.inl ⟨e.symm,(Option.some.inj h).symm⟩;cases h;rw[if_neg e]at h;exact Or.inr ⟨fun q=>e q.symm,h⟩
def z7c(em:aA m=m)(wE:m≠n)(h:hJ aA m n i=i):i≠n/\aA i=i:=by unfold hJ at h;by_cases e:aA i=n;rw[if_pos e]at h;subst h;exact⟨wE,em⟩;rw[if_neg e]at h;exact⟨fun q=>e (by rw[h,q]),h⟩
def zae(em:aA m=m)(h:hJ aA m n i≠i)(hn:i≠n):aA i≠i:=by intro q;apply h;unfold hJ;rw[q,if_neg hn]
def wb.mrg{cells:V aT}{N D:Nat}{aA d:Nat->Nat}(h:wb cells N aA d)(hr:Ei N D aA d){m n:Nat}(hm:m<N)(hn:n<N)(em:aA m=m)(en:aA n=n)(wE:m≠n)(t:Int)(o:V aG)(z:Int)(q:V aG):
  wb ((cells.set m ⟨-1,t,o⟩).set n ⟨(m:Int),z,q⟩) N (hJ aA m n) (GL aA d n) where
 root i c hc hi:=by obtain⟨h1,h2⟩:=z7c em wE hi;rcases RP hc with⟨e,_⟩|⟨_,hc⟩;exact absurd e h1;rcases RP hc with⟨e,e2⟩|⟨_,hc⟩;subst e2;rfl;exact h.root i c hc h2
 fwd i c hc hi:=by rcases RP hc with⟨e,e2⟩|⟨h1,hc⟩;subst e2;subst e;exact⟨m,rfl,z9t hr hm hn em en wE⟩;have h2:=zae em hi h1;rcases RP hc with⟨e,e2⟩|⟨_,hc⟩;subst e;exact absurd em h2;obtain⟨j,h3,h4⟩:=h.fwd i c hc h2;exact⟨j,h3,h4.mrg (D:=D)⟩
def tot(l:V aT):Nat:=(l.map fun c=>c.arcs.length).sum
def Fj:∀{l:V aT}{i:Nat}{x:aT}(c:aT),l[i]? = some x->tot (l.set i c)+x.arcs.length=tot l+c.arcs.length
 |[],i,x,c,h=>by simp at h
 |y::l,0,x,c,h=>by
  have:y=x:=by simpa using h
  subst this;simp only[List.set_cons_zero,tot,zQ,List.sum_cons];omega
 |y::l,i+1,x,c,h=>by have:=Fj (l:=l) (i:=i) c (by simpa using h);simp only[List.set_cons_succ,tot,zQ,List.sum_cons]at this ⊢;omega
def Fk:∀{l:V aT}{i:Nat}{x:aT},l[i]? = some x->x.arcs.length<=tot l:=fun{l i x} h=>by
 have:=Fj (aT.mk 0 0 []) h;simp only[zS]at this;omega
structure wZ(N:Nat)(FB:Int)(l:V aG):Prop where
 up:lY l
 ok:∀a∈l,0<=a.Feat/\a.Feat<FB/\0<=a.To/\a.To<N
def wZ.nil(N:Nat)(FB:Int):wZ N FB []:=⟨List.Pairwise.nil,fun a h=>by cases h⟩
def rR.ok{N:Nat}{FB:Int}{a b o:V aG}(h:rR a b o)(ha:wZ N FB a)(hb:wZ N FB b):wZ N FB o:=⟨h.up,fun x hx=>by
 rcases h.mem hx with h1 |h1;exact ha.ok x h1;exact hb.ok x h1⟩
structure kD(N D:Nat)(FB TB:Int)(cells:V aT)(aA d:Nat->Nat):Prop where
 rok:Ei N D aA d
 cok:wb cells N aA d
 len:cells.length=N
 ar:∀(i:Nat)(c:aT),cells[i]? = some c->wZ N FB c.arcs
 kd:∀(i:Nat)(c:aT),cells[i]? = some c->0<=c.kind/\c.kind<TB
def xU(cells:V aT)(m n:Nat)(t:Int)(o:V aG):V aT:=(cells.set m ⟨-1,t,o⟩).set n ⟨(m:Int),0,[]⟩
def kD.mrg{N D:Nat}{FB TB:Int}{cells:V aT}{aA d:Nat->Nat}(h:kD N D FB TB cells aA d){m n:Nat}(hm:m<N)(hn:n<N)(em:aA m=m)(en:aA n=n)(wE:m≠n){t:Int}{o:V aG}(ho:wZ N FB o)(ht:0<=t/\t<TB):
  kD N (D+1) FB TB (xU cells m n t o) (hJ aA m n) (GL aA d n) where
 rok:=h.rok.mrg hm em en wE
 cok:=h.cok.mrg h.rok hm hn em en wE t o 0 []
 len:=by simp[xU,h.len]
 ar i c hc:=by rcases RP hc with⟨_,e⟩|⟨_,hc⟩;subst e;exact .nil N FB;rcases RP hc with⟨_,e⟩|⟨_,hc⟩;subst e;exact ho;exact h.ar i c hc
 kd i c hc:=by rcases RP hc with⟨_,e⟩|⟨_,hc⟩;subst e;exact⟨by simp,by show(0:Int)<TB;omega⟩;rcases RP hc with⟨_,e⟩|⟨_,hc⟩;subst e;exact ht;exact h.kd i c hc
def ze7{cells:V aT}{m n:Nat}{x y:aT}(hx:cells[m]? = some x)(hy:cells[n]? = some y)(wE:m≠n)(t:Int){o:V aG}(ho:rR x.arcs y.arcs o):
  tot (xU cells m n t o)+(prs x.arcs y.arcs).length=tot cells:=by
 have h1:=Fj ⟨-1,t,o⟩ hx;have JX:(cells.set m ⟨-1,t,o⟩)[n]? = some y:=by rw[List.getElem?_set_ne wE];exact hy
 have h2:=Fj ⟨(m:Int),0,[]⟩ JX;have h3:=ho.len;simp only[xU,zS]at*;omega
def qS(tr:V bJ)(cells:V aT):V aT:=tr.foldr (fun x l=>l.set x.atx.toNat x.old) cells
def fc(tr:V bJ)(x:bJ)(cells:V aT):qS (tr++[x]) cells=qS tr (cells.set x.atx.toNat x.old):=by simp[qS]
def z1j{l:V aT}{k:Nat}{x y:aT}(h:l[k]? = some x):(l.set k y).set k x=l:=by rw[List.set_set];apply List.ext_getElem? fun i=>?_;rw[List.getElem?_set];by_cases e:k=i;subst e;have hk:=(zG.1 h).1;simp[hk]at h ⊢;exact h.symm;simp[e]
def rI(aA:Nat->Nat)(v:Int):Int:=(aA v.toNat:Int)
def pK(cells:V aT)(v:Int):aT:=(cells[v.toNat]?).getD ⟨-1,0,[]⟩
def Ef(out:V aJ)(k:Nat)(l:V aG):V aJ:=out.set k ⟨((out[k]?).map (·.Typex)).getD 0,l⟩
def vS(g:V Int×V aJ->Int->Int×V Int×V aJ):V aG->V Int×V aJ->V aG->V aG×V Int×V aJ
 |[],s,bD=>(bD,s)|a::l,s,bD=>vS g l (g s a.To).2 (bD++[⟨a.Feat,(g s a.To).1⟩])
def vis(cells:V aT)(aA:Nat->Nat):Nat->V Int×V aJ->Int->Int×V Int×V aJ
 |0,s,_=>(0,s)|k+1,s,v=>if rI aA v∈s.1 then((s.1.idxOf (rI aA v):Int),s)
  else
   let c:=pK cells (rI aA v)
   let r:=vS (vis cells aA k) c.arcs (s.1++[rI aA v],s.2++[⟨c.kind,[]⟩]) []
   ((s.1.length:Int),r.2.1,Ef r.2.2 s.1.length r.1)
structure Sn(N:Nat)(B:Nat)(s:V Int×V aJ):Prop where
 nd:s.1.Nodup
 ing:∀v∈s.1,0<=v/\v<(N:Int)
 len:s.2.length=s.1.length
 sm:∀x∈s.2,x.Arcs.length<=B
variable{N:Nat}
def Sn.le{B:Nat}{s:V Int×V aJ}(h:Sn N B s):s.1.length<=N:=Oy N h.nd h.ing
def Sn.nil(N B:Nat):Sn N B ([],[]):=⟨List.nodup_nil,fun v hv=>(List.not_mem_nil hv).elim,rfl,fun v hv=>(List.not_mem_nil hv).elim⟩
def Sn.snoc{B:Nat}{s:V Int×V aJ}(h:Sn N B s){v:Int}(hv:0<=v/\v<(N:Int))(hn:v ∉ s.1)(k:Int):Sn N B (s.1++[v],s.2++[⟨k,[]⟩]):=⟨by
 rw[List.nodup_append];refine⟨h.nd,by simp,?_⟩;intro a ha b hb;simp at hb;subst hb;intro e;subst e;exact hn ha,fun u hu=>by
 rcases yD.1 hu with hu |hu;exact h.ing u hu;simp at hu;subst hu;exact hv,by simp[h.len],fun x hx=>by
 rcases yD.1 hx with hx |hx;exact h.sm x hx;simp at hx;subst hx;simp⟩
def kD.cel{D:Nat}{FB TB:Int}{cells:V aT}{aA d:Nat->Nat}(h:kD N D FB TB cells aA d){v:Int}(hv:0<=v/\v<(N:Int)):cells[v.toNat]? = some (pK cells v):=by
 have h1:=h.len;have h2:v.toNat<cells.length:=by omega
 rw[pK,List.getElem?_eq_getElem h2];rfl
def kD.rI{N D:Nat}{FB TB:Int}{cells:V aT}{aA d:Nat->Nat}(h:kD N D FB TB cells aA d){v:Int}(hv:0<=v/\v<(N:Int)):0<=rI aA v/\rI aA v<(N:Int):=by have:=h.rok.lt v.toNat (by omega);unfold Go.Proofs.rI;omega
def z1x(g:V Int×V aJ->Int->Int×V Int×V aJ):∀(l:V aG)(s:V Int×V aJ)(bD:V aG),(vS g l s bD).1.length=bD.length+l.length
 |[],s,bD=>rfl|a::l,s,bD=>by rw[vS,z1x g l];simp;omega
def bn{N D B:Nat}{FB TB:Int}{cells:V aT}{aA d:Nat->Nat}(h:kD N D FB TB cells aA d)(hB:tot cells<=B):∀(k:Nat)(s:V Int×V aJ)(v:Int),Sn N B s->(0<=v/\v<(N:Int))->N-s.1.length<k->
  Sn N B (vis cells aA k s v).2/\s.1.length<=(vis cells aA k s v).2.1.length/\(0<(vis cells aA k s v).2.1.length)
 |0,s,v,hs,hv,hk=>by omega
 |k+1,s,v,hs,hv,hk=>by
  unfold vis;by_cases hm:rI aA v∈s.1;rw[if_pos hm];exact⟨hs,zF _,List.length_pos_of_mem hm⟩;rw[if_neg hm];have hr:=h.rI hv;have xF:=hs.snoc hr hm (pK cells (rI aA v)).kind;have hc:=h.cel hr;have Wi:=h.ar _ _ hc;have vC:=xF.le;simp only[zU,zO,zS]at vC;have key:∀(l:V aG),(∀a∈l,0<=a.To/\a.To<(N:Int))->∀(s':V Int×V aJ)(bD:V aG),Sn N B s'->s.1.length+1<=s'.1.length->Sn N B (vS (vis cells aA k) l s' bD).2/\s.1.length+1<=(vS (vis cells aA k) l s' bD).2.1.length:=by
   intro l;induction l with
   |nil=>intro _ s' bD h1 h2;exact⟨h1,h2⟩|cons a l ih=>intro hl s' bD h1 h2;have ha:=hl a (by simp);obtain⟨g1,g2,g3⟩:=bn h hB k s' a.To h1 ha (by omega);exact ih (fun b hb=>hl b (List.mem_cons_of_mem _ hb)) _ _ g1 (by omega)
  obtain⟨g1,g2⟩:=key _ (fun a ha=>(Wi.ok a ha).2.2) _ [] xF (by simp);refine⟨⟨g1.nd,g1.ing,?_,?_⟩,?_,?_⟩;show(Ef _ _ _).length=_;rw[Ef,List.length_set];exact g1.len;intro x hx;rcases List.mem_or_eq_of_mem_set hx with hx |hx;exact g1.sm x hx;subst hx;show(vS _ _ _ _).1.length<=B;rw[z1x];have:=Fk hc;simp;omega;show s.1.length<=(vS (vis cells aA k) _ _ _).2.1.length;omega;show 0<(vS (vis cells aA k) _ _ _).2.1.length;omega
end Go.Proofs
namespace Go.Proofs
open Go Go.Rx Go.Vx
set_option maxRecDepth 10000
def z5q{N D:Nat}{FB TB:Int}{cells:V aT}{aA d:Nat->Nat}(h:kD N D FB TB cells aA d):∀(k i:Nat),d i<k->i<N->Ry cells k (i:Int)=some (aA i:Int)
 |0,i,hk,_=>by omega
 |k+1,i,hk,hi=>by
  have hl:=h.len;obtain⟨c,hc,_⟩:=eA (l:=cells) (show i<cells.length by omega);simp only[Ry,cH,hc,aP];by_cases e:aA i=i;have:=h.cok.root i c hc e;simp[this,j?,e];obtain⟨j,h1,h2,h3,h4⟩:=h.cok.fwd i c hc e;have h5:decide (c.forward>=0)=true:=by simp[h1]
  rw[h5,zC,h1,z5q h k j (by omega) h2,h3]
def dt{N D:Nat}{FB TB:Int}{cells:V aT}{aA d:Nat->Nat}(h:kD N D FB TB cells aA d){n:Nat}(hn:D<n){v:Int}(hv:0<=v/\v<(N:Int))(p2:V dM)(p3:V eJ)(p6:V bJ)(p8:V d6):
  Ie n v p2 p3 cells p6 p8=some (rI aA v):=by
 have h1:v.toNat<N:=by omega
 have h2:=h.rok.bd _ h1;have:=z5q h n v.toNat (by omega) h1;rw[show((v.toNat:Nat):Int)=v by omega]at this;exact this
def ZE{i j:Nat}(h:i+j<=1000000000):IntKind.i64.wrap ((IntKind.u64.wrap (IntKind.i64.wrap ((i:Int)+(j:Int)))).fdiv (2^(min (1:Int).toNat IntKind.u64.bits)))=(((i+j)/2:Nat):Int):=by
 have e1:IntKind.i64.wrap ((i:Int)+(j:Int))=((i+j:Nat):Int):=DD (by omega) (by omega);have e2:IntKind.u64.wrap ((i+j:Nat):Int)=((i+j:Nat):Int):=by unfold IntKind.wrap;simp only[IntKind.signed,IntKind.bits,Bool.false_and,Bool.false_eq_true,if_false];omega
 have e3:min (1:Int).toNat IntKind.u64.bits=1:=rfl;have e4:((i+j:Nat):Int).fdiv (2^1)=(((i+j)/2:Nat):Int):=by rw[show(2:Int)^1=((2:Nat):Int) by rfl,Int.fdiv_eq_ediv_of_nonneg _ (Int.natCast_nonneg _)];rfl
 rw[e1,e2,e3,e4];exact wr (by omega) (by omega)
def lY.lt{l:V aG}(h:lY l){i j:Nat}{x y:aG}(hi:l[i]? = some x)(hj:l[j]? = some y)(lM:i<j):x.Feat<y.Feat:=by obtain⟨h1,e1⟩:=zG.1 hi;obtain⟨h2,e2⟩:=zG.1 hj;have:=List.pairwise_iff_getElem.1 h i j h1 h2 lM;rw[e1,e2]at this;exact this
structure At(l:V aG)(f:Int)(k:Nat):Prop where
 le:k<=l.length
 lo:∀(i:Nat)(x:aG),l[i]? = some x->i<k->x.Feat<f
 hi:∀(i:Nat)(x:aG),l[i]? = some x->k<=i->f<=x.Feat
def zb9(n:Nat){x:aG}{f:Int}(h1:0<=x.Feat/\x.Feat<1000000000)(h2:0<=f/\f<1000000000):Hk n x f=some (x.Feat-f):=by rw[Hk,wr (by omega) (by omega)]
def Dk{N:Nat}{FB:Int}{l:V aG}(h:wZ N FB l)(J:FB<=1000000000)(hl:l.length<=1000000){f:Int}(hf:0<=f/\f<FB)(n:Nat):∀(m i j:Nat),j-i<m->i<=j->j<=l.length->(∀(k:Nat)(x:aG),l[k]? = some x->k<i->x.Feat<f)->(∀(k:Nat)(x:aG),l[k]? = some x->j<=k->f<=x.Feat)->
  ∃(k:Nat)(b:D1),Z0 l f (Hk n) m (i:Int) (j:Int)=some ((k:Int),b)/\At l f k/\(b=true↔∃x,l[k]? = some x/\x.Feat=f)
 |0,i,j,hm,_,_,_,_=>by omega
 |m+1,i,j,hm,lM,hj,h1,h2=>by
  unfold Z0;by_cases e:i<j;have e1:decide ((i:Int)<(j:Int))=true:=by simp;omega
  have Ao:=ZE (i:=i) (j:=j) (by omega);obtain⟨x,hx,fT⟩:=eA (l:=l) (show(i+j)/2<l.length by omega);have ZZ:=h.ok x fT;have hc:=zb9 n (x:=x) (f:=f) (by omega) (by omega);simp only[e1,zC,Ao,cH,hx,aP,hc];by_cases h3:x.Feat-f<0;have e2:IntKind.i64.wrap ((((i+j)/2:Nat):Int)+1)=(((i+j)/2+1:Nat):Int):=DD (by omega) (by omega);simp only[h3,yC,zC,Im,e2];refine Dk h J hl hf n m ((i+j)/2+1) j (by omega) (by omega) hj (fun k y hy hk=>?_) h2;by_cases e3:k=(i+j)/2;subst e3;rw[hx]at hy;have:=Option.some.inj hy;subst this;omega;have:=h.up.lt hy hx (by omega);omega;simp only[h3,yB,zD,Im];refine Dk h J hl hf n m i ((i+j)/2) (by omega) (by omega) (by omega) h1 (fun k y hy hk=>?_);by_cases e3:k=(i+j)/2;subst e3;rw[hx]at hy;have:=Option.some.inj hy;subst this;omega;have:=h.up.lt hx hy (by omega);omega;have e0:i=j:=by omega
  subst e0;have e1:decide ((i:Int)<(i:Int))=false:=by simp
  have pE:At l f i:=⟨hj,h1,h2⟩;simp only[e1,zD,w?];by_cases aF:i<l.length;obtain⟨x,hx,fT⟩:=eA aF;have ZZ:=h.ok x fT;have hc:=zb9 n (x:=x) (f:=f) (by omega) (by omega);simp only[gP aF,zC,cH,hx,aP,hc];refine⟨i,_,rfl,pE,?_⟩;rw[beq_iff_eq];constructor;intro q;exact⟨x,hx,by omega⟩;rintro⟨y,hy,q⟩;rw[hx]at hy;have:=Option.some.inj hy;subst this;omega;simp only[hX aF,zD,aP];refine⟨i,false,rfl,pE,by simp,?_⟩;rintro⟨y,hy,_⟩;exact absurd (zG.1 hy).1 aF
def pk(p:Int×Int):i5:=⟨p.1,p.2⟩
def dq{N:Nat}{FB:Int}{a b:V aG}(ha:wZ N FB a)(hb:wZ N FB b)(J:FB<=1000000000)(P7:a.length<=20000)(hlb:b.length<=20000){n:Nat}(hn:60000<=n):∀(m k:Nat)(o:V aG),b.length-k<m->k<=b.length->rR a (b.take k) o->
  ∃o',Hy b n m (k:Int) ((prs a (b.take k)).map pk) o=some (o',(prs a b).map pk)/\rR a b o'
 |0,k,o,hm,_,_=>by omega
 |m+1,k,o,hm,hk,ho=>by
  unfold Hy;have A6:=ho.len;have Jm:(b.take k).length<=20000:=by rw[List.length_take];omega
  by_cases aF:k<b.length;obtain⟨y,hy,CF⟩:=eA aF;have hyo:=hb.ok y CF;have hoo:=ho.ok ha ⟨hb.up.sublist (List.take_sublist k b),fun x hx=>hb.ok x (List.mem_of_mem_take hx)⟩;obtain⟨i,bb,s1,s2,s3⟩:=Dk hoo J (by omega) (f:=y.Feat) ⟨hyo.1,hyo.2.1⟩ n n 0 o.length (by omega) (by omega) (zF _) (fun k x _ h=>by omega) (fun k x hx h=>by have:=(zG.1 hx).1;omega);rw[zV]at s1;simp only[gP aF,zC,cH,hy,aP,sg,s1];have ht:=iY hy;cases bb with
  |true=>
   obtain⟨x,hx,e⟩:=s3.1 rfl;have fT:=zX hx;have hxa:x∈a:=by
    rcases yD.1 (ho.pm.mem_iff.1 fT)with h |h;exact h;exfalso;have h1:=(List.mem_filter.1 h).1;obtain⟨q,hq⟩:=List.mem_iff_getElem?.1 h1;have P6:q<k:=by have:=(zG.1 hq).1;rw[List.length_take]at this;omega
    rw[List.getElem?_take_of_lt P6]at hq;have:=hb.up.lt hq hy P6;omega
   have hp:=qra (b:=b.take k) ha.up.dis hxa e;have kI:(prs a (b.take k)).length<=20000:=by have:=Fs a (b.take k);omega
   simp only[zC,hx,aP,iF aF (show b.length<=9223372036854775807 by omega)];rw[aH,if_pos (by simp only[yA];omega)];have iS:=ho.inn hxa e;rw[<-ht]at hp iS;have:=dq ha hb J P7 hlb hn m (k+1) o (by omega) (by omega) iS;rw[hp,List.map_append]at this;exact this
  |false=>
   have fD:∀x,o[i]? = some x->x.Feat≠y.Feat:=fun x hx e=>by have:=s3.2 ⟨x,hx,e⟩;cases this
   have AB:∀z∈o.take i,z.Feat<y.Feat:=fun z hz=>by
    obtain⟨q,hq⟩:=List.mem_iff_getElem?.1 hz;have P6:q<i:=by have:=(zG.1 hq).1;rw[List.length_take]at this;omega
    rw[List.getElem?_take_of_lt P6]at hq;exact s2.lo q z hq P6
   have TW:∀z∈o.drop i,y.Feat<z.Feat:=fun z hz=>by
    obtain⟨q,hq⟩:=List.mem_iff_getElem?.1 hz;rw[List.getElem?_drop]at hq;have h1:=s2.hi (i+q) z hq (by omega);cases q with
    |zero=>have:=fD z hq;omega|succ q=>obtain⟨x,hx,_⟩:=eA (l:=o) (show i<o.length by have:=(zG.1 hq).1;omega);have h2:=hoo.up.lt hx hq (by omega);have h3:=s2.hi i x hx (zF _);omega
   have iZ:=ho.out AB TW;have hna:∀x∈a,x.Feat≠y.Feat:=fun x hx e=>by have ZZ:x∈o:=ho.pm.mem_iff.2 (List.mem_append_left _ hx);rw[<-List.take_append_drop i o]at ZZ;rcases yD.1 ZZ with h |h;have:=AB x h;omega;have:=TW x h;omega
   have hp:=qot (b:=b.take k) hna;have hile:=s2.le;have hins:ur n (i:Int) o y.Feat y.To=some (o.take i++y::o.drop i):=by rw[ur,aH,if_pos (by omega),zZ]
   simp only[zD,hins,aP,iF aF (show b.length<=9223372036854775807 by omega)];rw[<-ht]at hp iZ;have:=dq ha hb J P7 hlb hn m (k+1) _ (by omega) (by omega) iZ;rw[hp]at this;exact this
  have e:b.take k=b:=zW (by omega);rw[e]at ho ⊢;simp only[hX aF,zD,J_];exact⟨o,rfl,ho⟩
end Go.Proofs
namespace Go.Proofs
open Go Go.Rx Go.Vx Go.Shelf Go.Sort
set_option maxRecDepth 10000
abbrev Str:=V Xv
def jL{v11 S R:Type}{l:V v11}(hl:l.length<=9223372036854775807){F:Nat->Int->S->M R}(v08:Nat->S->Prop){Q:R->Prop}
  (h:∀(m i:Nat)(x:v11)(s:S),l[i]? = some x->i<l.length->decide ((i:Int)<(l.length:Int))=true->IntKind.i64.wrap ((i:Int)+1)=((i+1:Nat):Int)->v08 i s->(∀s',v08 (i+1) s'->∃r,F m ((i+1:Nat):Int) s'=some r/\Q r)->∃r,F (m+1) (i:Int) s=some r/\Q r) (hK:∀(m:Nat)(s:S),decide ((l.length:Int)<(l.length:Int))=false->v08 l.length s->∃r,F (m+1) (l.length:Int) s=some r/\Q r):
  ∀(m i:Nat)(s:S),l.length-i<m->i<=l.length->v08 i s->∃r,F m (i:Int) s=some r/\Q r
 |0,i,s,hm,_,_=>by omega
 |m+1,i,s,hm,hi,hs=>by
  by_cases aF:i<l.length;obtain⟨x,hx,_⟩:=eA aF;exact h m i x s hx aF (gP aF) (iF aF hl) hs fun s' CJ=>jL hl v08 h hK m (i+1) s' (by omega) (by omega) CJ;have:i=l.length:=by omega
  subst this;exact hK m s (hX (by omega)) hs
def fO{I:Type}{p:Prop}[Decidable p]{k:M I}(h:p):aH p k=k:=if_pos h
def beqF{a b:Str}(h:a≠b):lW a b=false:=by rcases e:lW a b with _|_;rfl;exact absurd ((ny _ _).1 e) h
def LD(a b:Str):lW a b=decide (a=b):=by by_cases h:a=b;rw[(ny _ _).2 h];simp[h];rw[beqF h];simp[h]
variable{v11:Type}
variable{l:V v11}
def zba{a b:Nat}(h1:a<=b)(h2:b<=l.length):qD l (a:Int) (b:Int)=some ((l.drop a).take (b-a)):=by
 unfold qD;have:0<=(a:Int)/\(a:Int)<=(b:Int)/\(b:Int)<=(l.length:Int):=by omega
 simp[this,List.drop_take]
def ql{b:Nat}(h2:b<=l.length):qD l 0 (b:Int)=some (l.take b):=by
 have:=zba (l:=l) (Nat.zero_le b) h2
 rwa [zV,List.drop_zero,Nat.sub_zero]at this
def Zb{a:Nat}(h2:a<=l.length):qD l (a:Int) (l.length:Int)=some (l.drop a):=by
 have:=zba (l:=l) h2 (zF _)
 rwa [zW (by simp)]at this
def zdm(n:Nat)(z:Int)(b:D1):∃r,vr n z b=some r:=by simp only[vr,Ha,om,yq];cases decide (z>=48)<;>cases decide (z<=57)<;>cases (z==45)<;>cases b<;>cases decide (z>=65)<;>cases decide (z<=90)<;>cases decide (z>=97)<;>cases decide (z<=122)<;>exact⟨_,rfl⟩
variable{s:Str}
def z1o{i:Nat}{x:Xv}(h:s[i]? = some x):X6 s (i:Int)=some (x.toNat:Int):=by
 have:=(zG.1 h).1;have h2:0<=(i:Int)/\(i:Int)<(s.length:Int):=by omega
 simp[X6,h2,h]
variable{n:Nat}
def z0n(s:Str)(b:D1)(hn:40<=n):∃r,Pg n s b=some r/\(r=true->0<s.length/\s.length<=32):=by
 unfold Pg;by_cases h1:(s.length:Int)<1;simp only[h1,yC,zC,aP];exact⟨false,rfl,fun h=>by cases h⟩;by_cases h2:(s.length:Int)>32;simp only[h1,h2,yC,yB,zC,zD,aP];exact⟨false,rfl,fun h=>by cases h⟩;obtain⟨x,hx,_⟩:=eA (show 0<s.length by omega);have h3:=z1o hx;rw[zV]at h3;have hd:∃r,Ha n (x.toNat:Int)=some r:=by unfold Ha;cases decide ((x.toNat:Int)>=48)<;>exact⟨_,rfl⟩
 obtain⟨c,hc⟩:=hd;have key:=jL (l:=s) (by omega) (F:=fun m z (_:Unit)=>Hw s b n m z) (fun _ _=>True) (Q:=fun r=>True)
  (fun m i x _ hx aF hd hw _ ih=>by obtain⟨r,hr⟩:=zdm n (x.toNat:Int) b;obtain⟨q,hq,_⟩:=ih () trivial;simp only[Hw,hd,zC,z1o hx,aP,hr,hw];rcases r with _|_;exact⟨_,rfl,trivial⟩;exact⟨q,hq,trivial⟩)
  (fun m _ hd _=>by simp only[Hw,hd,zD,G_];exact⟨_,rfl,trivial⟩) n 0 () (by omega) (by omega) trivial
 obtain⟨q,hq,_⟩:=key;rw[zV]at hq;simp only[h1,h2,yB,zD,h3,aP,hc];cases c with
 |true=>simp only[zC,aP];exact⟨false,rfl,fun h=>by cases h⟩|false=>simp only[zD,aP];rcases((x.toNat:Int)==45)with _|_;exact⟨q,hq,fun _=>by omega⟩;exact⟨false,rfl,fun h=>by cases h⟩
def zbf{d:V bL}(hd:d.length<=1000000){s:Str}:∀(m i:Nat),d.length-i<m->i<=d.length->
  (∃j x,i<=j/\d[j]? = some x/\x.Name=s/\(∀k y,i<=k->k<j->d[k]? = some y->y.Name≠s)/\Hi d s m i=some (j:Int))\/((∀x∈d.drop i,x.Name≠s)/\Hi d s m i=some (-1))
 |0,i,hm,_=>by omega
 |m+1,i,hm,hi=>by unfold Hi;by_cases aF:i<d.length;obtain⟨x,hx,_⟩:=eA aF;simp only[gP aF,zC,cH,hx,aP,iF aF (show d.length<=9223372036854775807 by omega),LD];by_cases hb:x.Name=s;simp only[hb,yC,zC];exact .inl ⟨i,x,zF _,hx,hb,fun k y h1 h2=>by omega,rfl⟩;simp only[hb,yB,zD];rcases zbf hd (s:=s) m (i+1) (by omega) (by omega)with⟨j,y,h1,h2,h3,h4,h5⟩|⟨h1,h2⟩;refine .inl ⟨j,y,by omega,h2,h3,fun k z hk1 K9 hz=>?_,h5⟩;by_cases e:k=i;subst e;rw[hx]at hz;cases hz;exact hb;exact h4 k z (by omega) K9 hz;refine .inr ⟨fun y hy=>?_,h2⟩;rw[aV hx]at hy;rcases zI.1 hy with rfl |hy;exact hb;exact h1 y hy;simp only[hX aF,zD,i_,bQ aF];exact .inr ⟨fun x hx=>(List.not_mem_nil hx).elim,by simp⟩
variable{d:V bL}
def O4(hd:d.length<=1000000)(s:Str)(hn:d.length<n):
  (∃(j:Nat)(x:bL),d[j]? = some x/\x.Name=s/\(∀k y,k<j->d[k]? = some y->y.Name≠s)/\JA n d s=some (j:Int))\/((∀x∈d,x.Name≠s)/\JA n d s=some (-1)):=by rcases zbf hd (s:=s) n 0 (by omega) (by omega)with⟨j,y,_,h2,h3,h4,h5⟩|⟨h1,h2⟩;exact .inl ⟨j,y,h2,h3,fun k z hk hz=>h4 k z (by omega) hk hz,h5⟩;exact .inr ⟨by rw[List.drop_zero]at h1;exact h1,h2⟩
def z3s{l:V Str}(hl:l.length<=1000000){s:Str}:∀(m i:Nat),l.length-i<m->i<=l.length->Qx l s m i=some (decide (s∈l.drop i))
 |0,i,hm,_=>by omega
 |m+1,i,hm,hi=>by unfold Qx;by_cases aF:i<l.length;obtain⟨x,hx,_⟩:=eA aF;simp only[gP aF,zC,cH,hx,aP,aV hx,zI,iF aF (show l.length<=9223372036854775807 by omega),LD];by_cases e:x=s;simp[e];have e':¬ s=x:=fun h=>e h.symm;simp only[e,e',yB,zD,false_or];exact z3s hl m (i+1) (by omega) (by omega);simp only[hX aF,zD,E_,bQ aF,List.not_mem_nil,yB]
variable{l:V Str}
def O9(hl:l.length<=1000000)(s:Str)(hn:l.length<n):HF n l s=some (decide (s∈l)):=by have:=z3s hl (s:=s) n 0 (by omega) (by omega);rw[zV,List.drop_zero]at this;exact this
def fW(l:V Str):Prop:=l.Pairwise fun a b=>kX a b=true
def fW.nodup(h:fW l):l.Nodup:=h.imp fun{a b} h e=>by subst e;rw[qkn]at h;cases h
def zc0(hl:l.length<=1000000)(ha:fW l){j:Nat}(hj:j<=l.length)(hb:∀x∈l.take j,kX x s=true)(hx:∀x,l[j]? = some x->kX x s=false):∃out,ld l s j=some out/\(∀x,x∈out↔x=s\/x∈l)/\out.length<=l.length+1/\fW out:=by
 unfold ld;have tl:(l.take j).length=j:=by simp;omega
 have dl:(l.drop j).length=l.length-j:=by simp
 have ins:(∀x∈l.drop j,kX s x=true)->∃out,(a8 (qD l 0 (j:Int)) fun gO=>
  aH (gO.length*16<=140737488355328/\gO.length<=140737488355328) (
  aH ((gO.length+1)*16<=140737488355328/\gO.length+1<=140737488355328) (
  a8 (qD l (j:Int) (l.length:Int)) fun eB=>
  aH (((gO++[s]).length+eB.length)*16<=140737488355328/\(gO++[s]).length+eB.length<=140737488355328) (
  some ((gO++[s])++eB)))))=some out/\(∀x,x∈out↔x=s\/x∈l)/\out.length<=l.length+1/\fW out:=by
  intro hd;refine⟨(l.take j++[s])++l.drop j,?_,fun x=>?_,by simp;omega,?_⟩;rw[ql hj,aP,fO (by rw[tl];omega),fO (by rw[tl];omega),Zb hj,aP,fO (by rw[zU,tl,dl];simp;omega)];have:=List.take_append_drop j l;constructor;intro h;simp only[yD,List.mem_singleton]at h;rcases h with(h |h)|h;exact .inr (List.mem_of_mem_take h);exact .inl h;exact .inr (List.mem_of_mem_drop h);rintro(h |h);simp[h];rw[<-this]at h;simp only[yD]at h ⊢;rcases h with h |h;exact .inl (.inl h);exact .inr h;unfold fW at*;rw[<-List.take_append_drop j l,List.pairwise_append]at ha;rw[List.pairwise_append,List.pairwise_append];refine⟨⟨ha.1,by simp,fun a h1 b h2=>by simp at h2;subst h2;exact hb a h1⟩,ha.2.1,fun a h1 b h2=>?_⟩;rcases yD.1 h1 with h1 |h1;exact ha.2.2 a h1 b h2;simp at h1;subst h1;exact hd b h2
 by_cases aF:j<l.length;obtain⟨x,sx,fT⟩:=eA aF;have h1:=hx x sx;simp only[gP aF,zC,cH,sx,aP,LD];by_cases e:x=s;subst e;simp only[yC,zC];exact⟨l,rfl,fun y=>⟨fun h=>.inr h,fun h=>h.elim (fun h=>h ▸ fT) id⟩,by omega,ha⟩;simp only[e,yB,zD];have h2:kX s x=true:=by rcases h3:kX s x with _|_;exact absurd (qls x s h1 h3) e;rfl
 refine ins fun y hy=>?_;rw[aV sx]at hy;rcases zI.1 hy with rfl |hy
 exact h2;have:l=l.take (j+1)++l.drop (j+1):=(List.take_append_drop _ _).symm;unfold fW at ha;rw[this,List.pairwise_append]at ha;exact qlt _ _ _ h2 (ha.2.2 x (by rw[iY sx];simp) y hy);simp only[hX aF,zD,aP];exact ins fun y hy=>by rw[bQ aF]at hy;cases hy
def SU{l:V Str}(hl:l.length<=1000000)(ha:fW l){s:Str}:∀(m i:Nat),l.length-i<m->i<=l.length->(∀x∈l.take i,kX x s=true)->∃out,Pm l s m i=some out/\(∀x,x∈out↔x=s\/x∈l)/\out.length<=l.length+1/\fW out
 |0,i,hm,_,_=>by omega
 |m+1,i,hm,hi,hb=>by
  unfold Pm;by_cases aF:i<l.length;obtain⟨x,hx,_⟩:=eA aF;simp only[gP aF,zC,cH,hx,aP,iF aF (show l.length<=9223372036854775807 by omega)];cases BM:kX x s with
  |true=>
   simp only[zC];refine SU hl ha m (i+1) (by omega) (by omega) fun y hy=>?_;rw[iY hx]at hy;rcases yD.1 hy with hy |hy
   exact hb y hy;simp at hy;subst hy;exact BM
  |false=>simp only[zD];exact zc0 hl ha hi hb fun y hy=>by rw[hx]at hy;cases hy;exact BM
  simp only[hX aF,zD,aP];exact zc0 hl ha hi hb fun y hy=>by have:=(zG.1 hy).1;omega
def Fa(hl:l.length<=1000000)(ha:fW l)(s:Str)(hn:l.length<n):∃out,OA n l s=some out/\(∀x,x∈out↔x=s\/x∈l)/\out.length<=l.length+1/\fW out:=by have:=SU hl ha (s:=s) n 0 (by omega) (by omega) (by simp);rw[zV]at this;exact this
structure yO(l0 l:V Str)(out:V Str):Prop where
 mem:∀x,x∈out↔x∈l0\/x∈l
 len:out.length<=l0.length+l.length
 asc:fW out
def yO.next{l0 out pN:V Str}(h:yO l0 l out)(h1:∀x,x∈pN↔x=s\/x∈out)(h2:pN.length<=out.length+1)(h3:fW pN):yO l0 (l++[s]) pN:=by refine⟨fun x=>?_,by have:=h.len;simp;omega,h3⟩;rw[h1,h.mem];simp only[yD,List.mem_singleton];constructor;rintro(h |h |h);exact .inr (.inr h);exact .inl h;exact .inr (.inl h);rintro(h |h |h);exact .inr (.inl h);exact .inr (.inr h);exact .inl h
def yO.nil(h:fW l):yO l [] l:=⟨fun x=>by simp,by simp,h⟩
def names_ok(hd:d.length<=1000)(hn:5000<=n):∃out,Ox n d=some out/\yO [] (d.map bL.Name) out:=by
 have:=jL (l:=d) (by omega) (F:=fun m z s=>Hv d n m s z) (fun i s=>yO [] ((d.take i).map bL.Name) s) (Q:=fun out=>yO [] (d.map bL.Name) out)
  (fun m i x s hx aF bF hw hI ih=>by have hl:=hI.len;simp at hl;obtain⟨o,h1,h2,h3,h4⟩:=Fa (l:=s) (by omega) hI.asc x.Name (show s.length<n by omega);simp only[Hv,bF,zC,cH,hx,aP,h1,hw];exact ih o (by rw[iY hx,List.map_append];exact hI.next h2 h3 h4))
  (fun m s bF hI=>by simp only[Hv,bF,zD,B_];rw[zW (zF _)]at hI;exact⟨s,rfl,hI⟩) n 0 [] (by omega) (by omega) (yO.nil List.Pairwise.nil)
 rw[zV]at this;exact this
def zai(hd:d.length<=12)(hn:5000<=n):∃e,yk n d=some e/\(e=0->∀x∈d,x.Supers.length<=256/\x.Feats.length<=256):=by
 have:=jL (l:=d) (by omega) (F:=fun m z (_:Unit)=>Hs d m z) (fun i _=>∀x∈d.take i,x.Supers.length<=256/\x.Feats.length<=256) (Q:=fun e=>e=0->∀x∈d,x.Supers.length<=256/\x.Feats.length<=256)
  (fun m i x _ hx aF bF hw hI ih=>by
   simp only[Hs,bF,zC,cH,hx,aP,hw];by_cases h1:(x.Supers.length:Int)>256;simp only[h1,yC,zC,aP];exact⟨7,rfl,fun h=>by cases h⟩;by_cases h2:(x.Feats.length:Int)>256;simp only[h1,h2,yC,yB,zC,zD,aP];exact⟨7,rfl,fun h=>by cases h⟩;simp only[h1,h2,yB,zD,aP];refine ih () fun y hy=>?_;rw[iY hx]at hy;rcases yD.1 hy with hy |hy
   exact hI y hy;simp at hy;subst hy;omega)
  (fun m _ bF hI=>by simp only[Hs,bF,zD,y_];rw[zW (zF _)]at hI;exact⟨0,rfl,fun _=>hI⟩) n 0 () (by omega) (by omega) (by simp)
 rw[zV]at this;have h:¬ (d.length:Int)>256:=by omega
 simp only[yk,h,yB,zD];exact this
def zdh(s:Str)(hn:40<=n):∃r,vt n s=some r/\(r=true->0<s.length/\s.length<=32):=by obtain⟨r,h1,h2⟩:=z0n s false hn;exact⟨r,by simp[vt,h1,aP],h2⟩
structure Mx(d:V bL):Prop where
 nod:(d.map bL.Name).Nodup
 len:∀x∈d,0<x.Name.length/\x.Name.length<=32
def z4p(hd:d.length<=12)(hn:5000<=n):∃e,kx n d=some e/\(e=0->Mx d):=by
 have:=jL (l:=d) (by omega) (F:=fun m z (_:Unit)=>Hu d n m z) (fun i _=>Mx (d.take i)) (Q:=fun e=>e=0->Mx d)
  (fun m i x _ hx aF bF hw hI ih=>by obtain⟨r,h1,h2⟩:=zdh x.Name (show 40<=n by omega);simp only[Hu,bF,zC,cH,hx,aP,hw,h1];rcases r with _|_;exact⟨1,rfl,fun h=>by cases h⟩;simp only[Bool.not_true,zD];rcases O4 (d:=d) (by omega) x.Name (show d.length<n by omega)with⟨j,y,g1,g2,g3,g4⟩|⟨g1,g2⟩;simp only[g4,aP];by_cases hj:(j:Int)<(i:Int);simp only[hj,yC,zC];exact⟨4,rfl,fun h=>by cases h⟩;simp only[hj,yB,zD];refine ih () ?_;rw[iY hx];refine⟨?_,fun z hz=>?_⟩;rw[List.map_append,List.nodup_append];refine⟨hI.nod,by simp,fun a ha b hb e=>?_⟩;simp at hb;subst hb;obtain⟨z,hz,e2⟩:=List.mem_map.1 ha;obtain⟨k,hk,e3⟩:=List.mem_iff_getElem.1 hz;rw[List.length_take]at hk;rw[List.getElem_take]at e3;exact g3 k z (by omega) (by rw[List.getElem?_eq_getElem (by omega),e3]) (e2.trans e);rcases yD.1 hz with hz |hz;exact hI.len z hz;simp at hz;subst hz;exact h2 rfl;exact absurd rfl (g1 x (zX hx)))
  (fun m _ bF hI=>by simp only[Hu,bF,zD,A_];rw[zW (zF _)]at hI;exact⟨0,rfl,fun _=>hI⟩) n 0 () (by omega) (by omega) ⟨by simp,by simp⟩
 rw[zV]at this;exact this
def lO(d:V bL)(s:Str):Prop:=∃x∈d,x.Name=s
def dy(hd:d.length<=1000000)(h:lO d s)(hn:d.length<n):∃(j:Nat)(x:bL),d[j]? = some x/\x.Name=s/\JA n d s=some (j:Int):=by rcases O4 hd s hn with⟨j,x,h1,h2,_,h4⟩|⟨h1,_⟩;exact⟨j,x,h1,h2,h4⟩;obtain⟨x,hx,e⟩:=h;exact absurd e (h1 x hx)
def LH(d:V bL)(x:bL):Prop:=(∀s∈x.Supers,lO d s)/\x.Supers.Nodup
def z7z(hd:d.length<=12)(hs:∀x∈d,x.Supers.length<=256)(hn:5000<=n):∃e,yd n d=some e/\(e=0->∀x∈d,LH d x):=by
 have:=jL (l:=d) (by omega) (F:=fun m z (_:Unit)=>ON d n m z) (fun i _=>∀x∈d.take i,LH d x) (Q:=fun e=>e=0->∀x∈d,LH d x)
  (fun m i x _ hx aF bF hw hI ih=>by
   have fT:=zX hx;have hxs:=hs x fT;simp only[ON,bF,zC,cH,hx,aP];have:=jL (l:=x.Supers) (by omega) (F:=fun m' z (_:Unit)=>Ia d n i (ON d n m) x m' z) (fun k _=>(∀s∈x.Supers.take k,lO d s)/\(x.Supers.take k).Nodup) (Q:=fun e=>e=0->∀x∈d,LH d x)
    (fun m' k s _ hsx tQ dI y4 jN lJ=>by
     simp only[Ia,dI,zC,cH,hsx,aP,y4];rcases O4 (d:=d) (by omega) s (show d.length<n by omega)with⟨j,y,g1,g2,g3,g4⟩|⟨g1,g2⟩;have hj:¬ (j:Int)<0:=by omega
     have qN:=O9 (l:=x.Supers.take k) (by simp;omega) s (n:=n) (by simp;omega);simp only[g4,aP,hj,yB,zD,ql (show k<=x.Supers.length by omega),qN];by_cases hm:s∈x.Supers.take k;simp only[hm,yC,zC];exact⟨4,rfl,fun h=>by cases h⟩;simp only[hm,yB,zD];refine lJ () ?_;rw[iY hsx];refine⟨fun t ht=>?_,?_⟩;rcases yD.1 ht with ht |ht;exact jN.1 t ht;simp at ht;subst ht;exact⟨y,zX g1,g2⟩;rw[List.nodup_append];exact⟨jN.2,by simp,fun a ha b hb e=>by simp at hb;subst hb;subst e;exact hm ha⟩;simp only[g2,aP];exact⟨5,rfl,fun h=>by cases h⟩)
    (fun m' _ dI jN=>by
     simp only[Ia,dI,zD,mn,hw];rw[zW (zF _)]at jN;refine ih () fun y hy=>?_;rw[iY hx]at hy;rcases yD.1 hy with hy |hy
     exact hI y hy;simp at hy;subst hy;exact jN) n 0 () (by omega) (by omega) ⟨by simp,by simp⟩
   rw[zV]at this;exact this)
  (fun m _ bF hI=>by simp only[ON,bF,zD,Q_];rw[zW (zF _)]at hI;exact⟨0,rfl,fun _=>hI⟩) n 0 () (by omega) (by omega) (by simp)
 rw[zV]at this;exact this
def zac{x:bL}(hs:x.Supers.length<=256)(hl:l.length<=1000)(hn:5000<=n):kw n x l=some (decide (∀s∈x.Supers,s∈l)):=by
 have:=jL (l:=x.Supers) (by omega) (F:=fun m z (_:Unit)=>Ht x l n m z) (fun i _=>∀s∈x.Supers.take i,s∈l) (Q:=fun b=>b=decide (∀s∈x.Supers,s∈l))
  (fun m i s _ hx aF bF hw hI ih=>by
   simp only[Ht,bF,zC,cH,hx,aP,hw,O9 (l:=l) (by omega) s (n:=n) (by omega)];by_cases hm:s∈l;simp only[hm,yC,Bool.not_true,zD];refine ih () fun t ht=>?_;rw[iY hx]at ht;rcases yD.1 ht with ht |ht
   exact hI t ht;simp at ht;subst ht;exact hm;simp only[hm,yB,Bool.not_false,zC];exact⟨false,rfl,(decide_eq_false fun h=>hm (h s (zX hx))).symm⟩)
  (fun m _ bF hI=>by simp only[Ht,bF,zD,z_];rw[zW (zF _)]at hI;exact⟨true,rfl,(decide_eq_true hI).symm⟩) n 0 () (by omega) (by omega) (by simp)
 rw[zV]at this;obtain⟨r,h1,h2⟩:=this;rw[<-h2];exact h1
inductive Ord(d:List bL):List Str->Prop
 |nil:Ord d []
 |snoc {l:List Str} {x:bL}:Ord d l->x∈d->x.Name ∉ l->(∀s∈x.Supers,s∈l)->Ord d (l++[x.Name])
def Ord.nodup(h:Ord d l):l.Nodup/\∀s∈l,lO d s:=by induction h with|nil=>simp| @snoc l x h1 h2 h3 h4 ih=>refine⟨?_,fun s hs=>?_⟩;rw[List.nodup_append];exact⟨ih.1,by simp,fun a ha b hb e=>by simp at hb;subst hb;subst e;exact h3 ha⟩;rcases yD.1 hs with hs |hs;exact ih.2 s hs;simp at hs;subst hs;exact⟨x,h2,rfl⟩
def Og:∀{a b:V Str},a.Nodup->(∀x∈a,x∈b)->a.length<=b.length
 |[],b,_,_=>by simp
 |x::a,b,hn,hs=>by
  obtain⟨h1,h2⟩:=List.nodup_cons.1 hn;have h3:=Og (b:=b.erase x) h2 fun y hy=>by have:y≠x:=fun e=>h1 (e ▸ hy);exact(List.mem_erase_of_ne this).2 (hs y (List.mem_cons_of_mem x hy))
  have h4:=List.length_erase_of_mem (hs x (by simp));have h5:=List.length_pos_of_mem (hs x (by simp));simp only[zO];omega
def Ord.len(h:Ord d l):l.length<=d.length:=by
 have:=Og (b:=d.map bL.Name) h.nodup.1 fun s hs=>by obtain⟨x,hx,rfl⟩:=h.nodup.2 s hs;exact List.mem_map_of_mem hx
 rwa [yA]at this
def z6v(hd:d.length<=12)(hs:∀x∈d,x.Supers.length<=256)(hn:5000<=n):∃l,ye n d=some l/\Ord d l:=by
 have key:∀(m:Nat)(b:D1)(l:V Str),d.length-l.length+2<=m+(cond b 0 1)->Ord d l->∃r,MR d n m b l=some r/\Ord d r:=by
  intro m;induction m with
  |zero=>intro b l hm;cases b<;>simp at hm<;>omega|succ m ih=>
   intro b l hm hl;have CQ:=hl.len;unfold MR;rcases b with _|_;simp only[zD,R_];exact⟨l,rfl,hl⟩;simp only[zC]at hm ⊢;have:=jL (l:=d) (by omega) (F:=fun m' z (s:D1×Str)=>OO d n l (MR d n m) m' s.1 s.2 z) (fun i s=>s.1=true->∃x∈d,x.Name=s.2/\x.Name ∉ l/\∀t∈x.Supers,t∈l) (Q:=fun r=>Ord d r)
    (fun m' i x s hx aF bF hw hI lJ=>by
     have fT:=zX hx;simp only[OO,bF,zC,cH,hx,aP,hw,O9 (l:=l) (by omega) x.Name (n:=n) (by omega),zac (hs x fT) (show l.length<=1000 by omega) hn];by_cases h1:x.Name∈l;simp only[h1,yC,zC,aP];exact lJ (s.1,s.2) hI;by_cases h2:∀t∈x.Supers,t∈l;have e1:decide (∀t∈x.Supers,t∈l)=true:=decide_eq_true h2;simp only[h1,e1,yB,zD,Bool.not_true,aP,Qn,hw];have iC:∃y∈d,y.Name=x.Name/\y.Name ∉ l/\∀t∈y.Supers,t∈l:=⟨x,fT,rfl,h1,h2⟩;cases hb:s.1 with
     |false=>simp only[Bool.not_false,zC,aP];exact lJ (true,x.Name) fun _=>iC
     |true=>
      simp only[Bool.not_true,zD,aP];cases kX x.Name s.2 with
      |true=>simp only[zC];exact lJ (true,x.Name) fun _=>iC
      |false=>simp only[zD];exact lJ (true,s.2) fun _=>hI hb
     have e1:decide (∀t∈x.Supers,t∈l)=false:=decide_eq_false h2;simp only[h1,e1,yB,zD,Bool.not_false,aP,zC];exact lJ (s.1,s.2) hI)
    (fun m' s bF hI=>by
     simp only[OO,bF,zD,mp,Qo];rcases hb:s.1 with _|_;simp only[zD];exact ih false l (by simp;omega) hl;obtain⟨x,hx,e,h1,h2⟩:=hI hb;have hl2:Ord d (l++[s.2]):=by rw[<-e];exact .snoc hl hx h1 h2
     have:=hl2.len;simp only[zU,zO,zS]at this;simp only[zC];rw[fO (by omega)];exact ih true (l++[s.2]) (by simp;omega) hl2) n 0 (false,[]) (by omega) (by omega) (fun h=>by cases h)
   rw[zV]at this;exact this
 exact key n true [] (by simp;omega) .nil
structure AP(d:V bL):Prop where
 len:d.length<=12
 siz:∀x∈d,x.Supers.length<=256/\x.Feats.length<=256
 nam:Mx d
 sup:∀x∈d,LH d x
 ord:∃l,Ord d l/\l.length=d.length
 one:(d.filter fun x=>decide (x.Supers=[])).length=1
def z4j(hd:d.length<=12)(hn:5000<=n):∃e,yl n d=some e/\(e=0->AP d):=by
 obtain⟨e1,a1,a2⟩:=zai hd hn;simp only[yl,a1,aP];by_cases h1:e1=0;subst h1;have a3:=a2 rfl;obtain⟨e2,b1,b2⟩:=z4p hd hn;simp only[bne_self_eq_false,zD,b1,aP];by_cases h2:e2=0;subst h2;obtain⟨e3,c1,c2⟩:=z7z hd (fun x hx=>(a3 x hx).1) hn;simp only[bne_self_eq_false,zD,c1,aP];by_cases h3:e3=0;subst h3;simp only[bne_self_eq_false,zD];have:=jL (l:=d) (by omega) (F:=fun m z (s:Int)=>SH d n m s z) (fun i s=>s=(((d.take i).filter fun x=>decide (x.Supers=[])).length:Int)) (Q:=fun e=>e=0->AP d)
  (fun m i x s hx aF bF hw hI ih=>by
   have CV:=List.length_filter_le (fun x:bL=>decide (x.Supers=[])) (d.take i);rw[List.length_take]at CV;simp only[SH,bF,zC,cH,hx,aP,Px,hw];by_cases hz:x.Supers=[];have e0:((x.Supers.length:Int)==0)=true:=by simp[hz]
   have e1:IntKind.i64.wrap (s+1)=s+1:=wr (by omega) (by omega);simp only[e0,zC,e1];refine ih (s+1) ?_;rw[iY hx,List.filter_append,zU,hI];simp[hz];have e0:((x.Supers.length:Int)==0)=false:=by simp[List.length_eq_zero_iff,hz]
   simp only[e0,zD];refine ih s ?_;rw[iY hx,List.filter_append,zU,hI];simp[hz])
  (fun m s bF hI=>by
   rw[zW (zF _)]at hI;simp only[SH,bF,zD,C_];by_cases h4:s=1;obtain⟨l,g1,g2⟩:=z6v hd (fun x hx=>(a3 x hx).1) hn;have hl:=g2.len;simp only[h4,bne_self_eq_false,zD,g1,aP];by_cases h5:(l.length:Int)<(d.length:Int);simp only[h5,yC,zC];exact⟨6,rfl,fun h=>by cases h⟩;simp only[h5,yB,zD];exact⟨0,rfl,fun _=>⟨hd,a3,b2 rfl,c2 rfl,⟨l,g2,by omega⟩,by omega⟩⟩;have e4:(s != 1)=true:=by simpa using h4
   simp only[e4,zC];exact⟨1,rfl,fun h=>by cases h⟩) n 0 0 (by omega) (by omega) (by simp)
 rw[zV]at this;exact this;have e4:(e3 != 0)=true:=by simpa using h3
 simp only[e4,zC];exact⟨e3,rfl,fun h=>absurd h h3⟩;have e4:(e2 != 0)=true:=by simpa using h2
 simp only[e4,zC];exact⟨e2,rfl,fun h=>absurd h h2⟩;have e4:(e1 != 0)=true:=by simpa using h1
 simp only[e4,zC];exact⟨e1,rfl,fun h=>absurd h h1⟩
variable{a:Nat}
def wu(h:a<18446744073709551616):IntKind.u64.wrap (a:Int)=(a:Int):=by simp only[IntKind.wrap,IntKind.bits,IntKind.signed];simp;omega
variable{b:Nat}
def Q1(ha:a<18446744073709551616)(hb:b<18446744073709551616):GM .u64 (a:Int) (b:Int)=((a&&&b:Nat):Int):=by
 have h:(BitVec.ofInt 64 (a:Int)&&&BitVec.ofInt 64 (b:Int)).toNat=a&&&b:=by simp only[BitVec.ofInt_natCast,BitVec.toNat_and,BitVec.toNat_ofNat];rw[Nat.mod_eq_of_lt ha,Nat.mod_eq_of_lt hb]
 show IntKind.u64.wrap (((BitVec.ofInt 64 (a:Int)&&&BitVec.ofInt 64 (b:Int)).toNat:Nat):Int)=_;rw[h];exact wu (Nat.lt_of_le_of_lt Nat.and_le_left ha)
def orN(ha:a<18446744073709551616)(hb:b<18446744073709551616):In .u64 (a:Int) (b:Int)=((a|||b:Nat):Int):=by
 have h:(BitVec.ofInt 64 (a:Int)|||BitVec.ofInt 64 (b:Int)).toNat=a|||b:=by simp only[BitVec.ofInt_natCast,BitVec.toNat_or,BitVec.toNat_ofNat];rw[Nat.mod_eq_of_lt ha,Nat.mod_eq_of_lt hb]
 show IntKind.u64.wrap (((BitVec.ofInt 64 (a:Int)|||BitVec.ofInt 64 (b:Int)).toNat:Nat):Int)=_;rw[h];exact wu (Nat.or_lt_two_pow (n:=64) ha hb)
def Sz(ha:a<18446744073709551616)(hb:b<18446744073709551616):∃c:Nat,RT .u64 (a:Int) (b:Int)=(c:Int)/\(c=0↔a&&&b=a):=by
 refine⟨(BitVec.ofInt 64 (a:Int) &&& ~~~ BitVec.ofInt 64 (b:Int)).toNat,?_,?_⟩;exact wu (BitVec.isLt _);have h1:(BitVec.ofInt 64 (a:Int)&&&BitVec.ofInt 64 (b:Int)).toNat=a&&&b:=by simp only[BitVec.ofInt_natCast,BitVec.toNat_and,BitVec.toNat_ofNat];rw[Nat.mod_eq_of_lt ha,Nat.mod_eq_of_lt hb]
 have h2:(BitVec.ofInt 64 (a:Int)).toNat=a:=by simp only[BitVec.ofInt_natCast,BitVec.toNat_ofNat];exact Nat.mod_eq_of_lt ha
 generalize BitVec.ofInt 64 (a:Int)=x at*;generalize BitVec.ofInt 64 (b:Int)=y at*;rw[<-h1];constructor;intro h;have h3:x &&& ~~~ y=0#64:=BitVec.eq_of_toNat_eq (by simpa using h);have:x&&&y=x:=by ext i hi;have:=congrArg (fun z=>z.getLsbD i) h3;simp[hi]at this ⊢;intro hx;exact this hx
 rw[this,h2];intro h;have h3:x&&&y=x:=BitVec.eq_of_toNat_eq (by rw[h,h2]);have:x &&& ~~~ y=0#64:=by ext i hi;have:=congrArg (fun z=>z.getLsbD i) h3;simp[hi]at this ⊢;intro hx;exact this hx
 rw[this];rfl
def bt(w:Nat):V Int:=if w=0 then[]else[(w:Int)]
def Q8:bt 0=[]:=rfl
variable{w:Nat}
def tF(h:w≠0):bt w=[(w:Int)]:=if_neg h
def zco:((bt w).length:Int)=0↔w=0:=by by_cases h:w=0;simp[h,bt];simp[h,bt]
def bx{w:Nat}{k:Nat}(hk:k<=1000):∀(j m:Nat),j<=k->j+2<=m->YT ((w:Int)::List.replicate k 0) m ((j+1:Nat):Int)=some (bt w)
 |0,0,_,h=>by omega
 |0,1,_,h=>by omega
 |0,m+2,_,_=>by
  have e0:IntKind.i64.wrap (((0+1:Nat):Int)-1)=0:=wr (z:=0) (by omega) (by omega);have e1:aC ((w:Int)::List.replicate k 0) 0=some (w:Int):=by simp[aC]
  have e2:decide (((0+1:Nat):Int)>0)=true:=by simp
  have c0:=ql (l:=(w:Int)::List.replicate k 0) (b:=0) (by simp);have c1:=ql (l:=(w:Int)::List.replicate k 0) (b:=1) (by simp);rw[zV,List.take_zero]at c0;rw[YT,e2,e0,zC,e1,aP,aP];by_cases hw:w=0;have:((w:Int)==0)=true:=by simp[hw]
  rw[this,zC,YT];simp only[Int.lt_irrefl,yB,zD,aP,uk,c0,show((0:Int)>0)=False by simp];rw[fO (by simp),hw,Q8];have:((w:Int)==0)=false:=by simp[hw]
  rw[this,zD,uk,show((0+1:Nat):Int)=((1:Nat):Int) by simp,c1,aP,fO (by simp),tF hw];rfl
 |j+1,m,hj,hm=>by
  obtain⟨m,rfl⟩:∃q,m=q+1:=⟨m-1,by omega⟩;have e0:IntKind.i64.wrap (((j+1+1:Nat):Int)-1)=((j+1:Nat):Int):=DD (by omega) (by omega);have e1:aC ((w:Int)::List.replicate k 0) ((j+1:Nat):Int)=some 0:=by rw[cH,zH,List.getElem?_replicate,if_pos (by omega)]
  have e2:decide (((j+1+1:Nat):Int)>0)=true:=by simp;omega
  rw[YT,e2,e0,zC,e1,aP,aP];exact bx hk j m (by omega) (by omega)
variable{n:Nat}
def qr(hn:5<=n):MO n [(w:Int)]=some (bt w):=bx (k:=0) (by omega) 0 n (by omega) (by omega)
def qt(hn:5<=n):MO n []=some []:=by obtain⟨k,rfl⟩:=Nat.exists_eq_add_of_le' hn;rfl
def zdi(hn:5<=n):MO n (bt w)=some (bt w):=by by_cases h:w=0;subst h;exact qt hn;rw[tF h,qr hn,tF h]
def B'(b n:Nat):YD n (bt b) 0=some (b:Int):=by by_cases h:b=0;subst h;rfl;rw[tF h];rfl
def zb1(ha:a<4096)(hb:b<4096)(hn:5<=n):J8 n (bt a) (bt b)=some (bt (a&&&b)):=by obtain⟨k,rfl⟩:=Nat.exists_eq_add_of_le' hn;by_cases h:a=0;subst h;rw[Nat.zero_and];have:=qt (n:=k+5) hn;simp only[J8,Q8,Pn,zS,S5,this,aP];rfl;have h1:=Q1 (a:=a) (b:=b) (by omega) (by omega);have h2:=qr (w:=a&&&b) (n:=k+5) hn;have e:J8 (k+5) [(a:Int)] (bt b)=a8 (YD (k+5) (bt b) 0) fun fN=>aH ((0+1)*8<=140737488355328/\0+1<=140737488355328) (S5 (k+5) [GM .u64 (a:Int) fN]):=rfl;rw[tF h,e,B',aP,fO (by omega),S5,h1,h2];rfl
def za0(ha:a<4096)(hb:b<4096)(hn:5<=n):∃c:Nat,Gt n (bt a) (bt b)=some (bt c)/\(c=0↔a&&&b=a):=by obtain⟨k,rfl⟩:=Nat.exists_eq_add_of_le' hn;by_cases h:a=0;subst h;have:=qt (n:=k+5) hn;refine⟨0,?_,by simp⟩;simp only[Gt,Q8,uf,zS,Qy,this,aP];rfl;obtain⟨c,h1,h3⟩:=Sz (a:=a) (b:=b) (by omega) (by omega);have h2:=qr (w:=c) (n:=k+5) hn;have e:Gt (k+5) [(a:Int)] (bt b)=a8 (YD (k+5) (bt b) 0) fun fN=>aH ((0+1)*8<=140737488355328/\0+1<=140737488355328) (Qy (k+5) [RT .u64 (a:Int) fN]):=rfl;refine⟨c,?_,h3⟩;rw[tF h,e,B',aP,fO (by omega),Qy,h1,h2];rfl
def fj(ha:a<4096)(hb:b<4096)(hn:5<=n):He n (bt a) (bt b)=some (decide (a&&&b=a)):=by obtain⟨c,h1,h2⟩:=za0 ha hb hn;rw[He,h1,aP];congr 1;rw[Bool.eq_iff_iff,beq_iff_eq,zco,h2,decide_eq_true_eq]
def xw(ha:a<4096)(hb:b<4096)(hn:5<=n):yp n (bt a) (bt b)=some (decide (a=b)):=by
 simp only[yp,fj ha hb hn,fj hb ha hn,aP];by_cases h:a&&&b=a;by_cases h':b&&&a=b;have:a=b:=by rw[<-h,Nat.and_comm,h']
 simp[h,h',this,aP];have:a≠b:=fun e=>h' (by rw[<-e,Nat.and_self]);simp[h,h',this,aP];have:a≠b:=fun e=>h (by rw[<-e,Nat.and_self]);simp[h,this,aP]
def zbj{i:Nat}(hw:w<4096)(hi:i<64):Oo n (bt w) (i:Int)=some (w.testBit i):=by
 have e0:decide ((i:Int)<0)=false:=by simp
 have e1:(i:Int).tdiv 64=0:=by rw[Int.tdiv_eq_ediv_of_nonneg (by omega)];omega
 have e2:IntKind.i64.wrap 0=0:=wr (by omega) (by omega);simp only[Oo,e0,zD,aP,e1,e2];by_cases h:w=0;subst h;simp[Q8];have e3:decide ((0:Int)>=((bt w).length:Int))=false:=by rw[tF h];simp
 have e4:aC (bt w) 0=some (w:Int):=by rw[tF h];rfl
 have e5:(i:Int).tmod 64=(i:Int):=by rw[Int.tmod_eq_emod_of_nonneg (by omega)];omega
 have e6:IntKind.u64.wrap (i:Int)=(i:Int):=wu (by omega);have e7:min ((i:Int).toNat) IntKind.u64.bits=i:=by rw[zZ];exact Nat.min_eq_left (by show i<=64;omega)
 have e8:(w:Int).fdiv (2^i)=((w/2^i:Nat):Int):=by rw[show(2:Int)^i=((2^i:Nat):Int) by simp,Int.fdiv_eq_ediv_of_nonneg _ (Int.natCast_nonneg _)];rfl
 have aF:w/2^i<18446744073709551616:=Nat.lt_of_le_of_lt (Nat.div_le_self _ _) (by omega);have e9:=Q1 (a:=w/2^i) (b:=1) aF (by omega);rw[show((1:Nat):Int)=1 from rfl]at e9;simp only[e3,zD,e4,aP,e5,e6];rw[fO (by omega),e7,e8,e9];congr 1;rw[Bool.eq_iff_iff,beq_iff_eq,Nat.testBit_eq_decide_div_mod_eq,decide_eq_true_eq,Nat.and_one_is_mod];omega
def bl(w:Nat):V Int:=((List.range 64).filter fun i=>w.testBit i).map fun(i:Nat)=>(i:Int)
def zda(hw:w<4096)(hn:100<=n):jx n (bt w)=some (bl w):=by
 by_cases h:w=0;subst h;obtain⟨k,rfl⟩:=Nat.exists_eq_add_of_le' hn;have e:bl 0=[]:=by simp[bl]
 rw[e];rfl;have sM:IntKind.i64.wrap (64*((bt w).length:Int))=((List.range 64).length:Int):=by rw[tF h,List.length_range];exact wr (by simp) (by simp)
 have:=jL (l:=List.range 64) (by simp) (F:=fun m z s=>SC (bt w) n m z s) (fun i s=>s=(((List.range 64).take i).filter fun i=>w.testBit i).map fun(i:Nat)=>(i:Int)) (Q:=fun r=>r=bl w)
  (fun m i x s hx aF bF wB hI ih=>by
   have hxi:x=i:=by rw[List.getElem?_range (by simpa using aF)]at hx;exact(Option.some.inj hx).symm
   subst hxi;have aZ:s.length<=64:=by rw[hI,yA];refine Nat.le_trans (List.length_filter_le _ _) ?_;rw[List.length_take,List.length_range];omega
   rw[List.length_range]at aF;simp only[SC,sM,bF,zC,zbj hw aF,aP,Pk,wB];cases hb:w.testBit x with
   |true=>simp only[zC];rw[fO (by omega)];refine ih _ ?_;rw[iY hx,List.filter_append,List.map_append,hI];simp[hb]|false=>simp only[zD];refine ih _ ?_;rw[iY hx,List.filter_append,List.map_append,hI];simp[hb])
  (fun m s bF hI=>by simp only[SC,sM,bF,zD,k_];rw[zW (zF _)]at hI;exact⟨s,rfl,hI⟩) n 0 [] (by simp;omega) (by omega) (by simp)
 obtain⟨r,h1,h2⟩:=this;rw[<-h2];rw[zV]at h1;exact h1
def qzr(hw:w<4096)(hn:100<=n):Pf n (bt w)=some ((bl w).length:Int):=by rw[Pf,zda hw hn];rfl
def ay(hn:5<=n):S2 n (bt a) (bt b)=some (decide (a=b)):=by
 obtain⟨k,rfl⟩:=Nat.exists_eq_add_of_le' hn;by_cases ha:a=0;subst ha;by_cases hb:b=0;subst hb;rfl;rw[tF hb];simp[Q8,S2,Ne.symm hb];by_cases hb:b=0;subst hb;rw[tF ha];simp[Q8,S2,ha];have e:S2 (k+5) [(a:Int)] [(b:Int)]=cond ((a:Int) != (b:Int)) (some false) (some true):=rfl;rw[tF ha,tF hb,e];by_cases h:a=b;subst h;simp;have:((a:Int) != (b:Int))=true:=by simp;omega
 simp[this,h]
def Tw{ws:V Nat}(hl:ws.length<=1000)(hn:5000<=n):xk n (ws.map bt) (bt b)=some (decide (b∈ws)):=by
 have:=jL (l:=ws) (by omega) (F:=fun m z (_:Unit)=>Gy (ws.map bt) (bt b) n m z) (fun i _=>b ∉ ws.take i) (Q:=fun r=>r=decide (b∈ws))
  (fun m i x _ hx aF bF hw hI ih=>by
   have Uf:(ws.map bt)[i]? = some (bt x):=by rw[List.getElem?_map,hx];rfl
   simp only[Gy,yA,bF,zC,cH,Uf,aP,ay (a:=x) (b:=b) (n:=n) (by omega),hw];by_cases e:x=b;simp only[e,yC,zC];exact⟨true,rfl,(decide_eq_true (e ▸ zX hx)).symm⟩;simp only[e,yB,zD];refine ih () ?_;rw[iY hx];simp[hI,Ne.symm e])
  (fun m _ bF hI=>by simp only[Gy,yA,bF,zD,oj];rw[zW (zF _)]at hI;exact⟨false,rfl,(decide_eq_false hI).symm⟩) n 0 () (by omega) (by omega) (by simp)
 obtain⟨r,h1,h2⟩:=this;rw[<-h2];rw[zV]at h1;exact h1
def JE(l:V Nat):Nat:=l.foldl (fun w i=>w|||2^i) 0
def bi:∀(l:V Nat)(w:Nat),(∀i∈l,i<12)->w<4096->l.foldl (fun w i=>w|||2^i) w<4096
 |[],w,_,h=>h|i::l,w,hl,h=>bi l _ (fun j hj=>hl j (by simp[hj])) (Nat.or_lt_two_pow (n:=12) h (Nat.pow_lt_pow_right (by omega) (hl i (by simp))))
def zbs(j:Nat):∀(l:V Nat)(w:Nat),(l.foldl (fun w i=>w|||2^i) w).testBit j=(w.testBit j||decide (j∈l))
 |[],w=>by simp
 |i::l,w=>by rw[List.foldl_cons,zbs j l,Nat.testBit_or,Nat.testBit_two_pow];by_cases e:i=j;subst e;simp;have:¬ j=i:=fun h=>e h.symm;simp[e,this,Bool.or_assoc]
def Ss{l:V Nat}(hl:l.length<=12)(dK:∀i∈l,i<12)(hn:5000<=n):jf n (l.map fun(i:Nat)=>(i:Int))=some (bt (JE l),0):=by
 have hrep:List.replicate (64:Int).toNat (0:Int)=((0:Nat):Int)::List.replicate 63 0:=rfl;have:=jL (l:=l) (by omega) (F:=fun m z s=>Gz (l.map fun(i:Nat)=>(i:Int)) n m z s) (fun i s=>s=(((l.take i).foldl (fun w i=>w|||2^i) 0:Nat):Int)::List.replicate 63 0) (Q:=fun r=>r=(bt (JE l),0))
  (fun m i x s hx aF bF hw hI ih=>by
   have Y?:=dK x (zX hx);have Uf:(l.map fun(i:Nat)=>(i:Int))[i]? = some (x:Int):=by rw[List.getElem?_map,hx];rfl
   have e1:decide ((x:Int)<0)=false:=by simp
   have e2:decide ((x:Int)>4095)=false:=by simp;omega
   have e3:IntKind.i64.wrap ((x:Int).tdiv 64)=0:=by rw[Int.tdiv_eq_ediv_of_nonneg (by omega),show(x:Int)/64=0 by omega];exact wr (by omega) (by omega)
   have e4:(x:Int).tmod 64=(x:Int):=by rw[Int.tmod_eq_emod_of_nonneg (by omega)];omega
   have e5:IntKind.u64.wrap (x:Int)=(x:Int):=wu (by omega);have e6:min ((x:Int).toNat) IntKind.u64.bits=x:=by rw[zZ];exact Nat.min_eq_left (by show x<=64;omega)
   have hw0:(l.take i).foldl (fun w i=>w|||2^i) 0<4096:=bi _ 0 (fun j hj=>dK j (List.mem_of_mem_take hj)) (by omega);have hp:2^x<4096:=Nat.pow_lt_pow_right (n:=12) (by omega) Y?;have e7:IntKind.u64.wrap (1*(2^x:Int))=((2^x:Nat):Int):=by rw[Int.one_mul,show(2:Int)^x=((2^x:Nat):Int) by simp];exact wu (by omega)
   have e8:m6 s 0 ((64:Int).toNat) 0=some (((l.take i).foldl (fun w i=>w|||2^i) 0:Nat):Int):=by rw[hI];rfl
   have e9:=orN (a:=(l.take i).foldl (fun w i=>w|||2^i) 0) (b:=2^x) (by omega) (by omega);simp only[Gz,yA,bF,zC,cH,Uf,aP,e1,e2,zD,e3,e4,e5,e6,e7,e8,e9,hw];rw[fO (by omega)];refine ih _ ?_;rw[iY hx,List.foldl_append,hI];rfl)
  (fun m s bF hI=>by
   simp only[Gz,yA,bF,zD,ol];rw[zW (zF _)]at hI;have h1:MO n s=some (bt (JE l)):=by rw[hI];exact bx (k:=63) (by omega) 63 n (by omega) (by omega)
   rw[fO (by rw[hI];rfl),h1];exact⟨_,rfl,rfl⟩) n 0 _ (by omega) (by omega) rfl
 obtain⟨r,h1,h2⟩:=this;rw[zV]at h1;rw[jf,fO (by decide),hrep,<-h2];exact h1
inductive oU(d:List bL)(s:Str):Str->Prop
 |refl:oU d s s
 |step {t u:Str} {x:bL}:oU d s t->x∈d->x.Name=t->u∈x.Supers->oU d s u
variable{d:V bL}
variable{s:Str}
def oU.trans{t u:Str}(h:oU d s t)(h':oU d t u):oU d s u:=by induction h' with|refl=>exact h|step _ h2 h3 h4 ih=>exact .step ih h2 h3 h4
structure WL(d:V bL)(P:Str->Prop)(l:V Str):Prop where
 nod:l.Nodup
 mem:∀s∈l,lO d s/\P s
variable{l:V Str}
def WL.len{P:Str->Prop}(h:WL d P l):l.length<=d.length:=by
 have:=Og (b:=d.map bL.Name) h.nod fun s hs=>by obtain⟨x,hx,rfl⟩:=(h.mem s hs).1;exact List.mem_map_of_mem hx
 rwa [yA]at this
def WL.snoc{d:V bL}{P:Str->Prop}{l:V Str}(h:WL d P l){s:Str}(hn:s ∉ l)(hs:lO d s/\P s):WL d P (l++[s]):=by refine⟨?_,fun t ht=>?_⟩;rw[List.nodup_append];exact⟨h.nod,by simp,fun a ha b hb e=>by simp at hb;subst hb;subst e;exact hn ha⟩;rcases yD.1 ht with ht |ht;exact h.mem t ht;simp at ht;subst ht;exact hs
variable{n:Nat}
def z6y(hl:l.length<=1000)(hn:5000<=n):(∃out,YP n l n [] 0=some out/\yO [] l out)/\∃out,YQ n l n [] 0=some out/\yO [] l out:=by
 constructor;have:=jL (l:=l) (by omega) (F:=fun m z s=>YP n l m s z) (fun i s=>yO [] (l.take i) s) (Q:=fun out=>yO [] l out)
  (fun m i x s hx aF bF hw hI ih=>by have hl:=hI.len;simp at hl;obtain⟨o,h1,h2,h3,h4⟩:=Fa (l:=s) (by omega) hI.asc x (show s.length<n by omega);simp only[YP,bF,zC,cH,hx,aP,h1,hw];exact ih o (by rw[iY hx];exact hI.next h2 h3 h4))
  (fun m s bF hI=>by simp only[YP,bF,zD,D_];rw[zW (zF _)]at hI;exact⟨s,rfl,hI⟩) n 0 [] (by omega) (by omega) (yO.nil List.Pairwise.nil)
 rw[zV]at this;exact this;have:=jL (l:=l) (by omega) (F:=fun m z s=>YQ n l m s z) (fun i s=>yO [] (l.take i) s) (Q:=fun out=>yO [] l out)
  (fun m i x s hx aF bF hw hI ih=>by have hl:=hI.len;simp at hl;obtain⟨o,h1,h2,h3,h4⟩:=Fa (l:=s) (by omega) hI.asc x (show s.length<n by omega);simp only[YQ,bF,zC,cH,hx,aP,h1,hw];exact ih o (by rw[iY hx];exact hI.next h2 h3 h4))
  (fun m s bF hI=>by simp only[YQ,bF,zD,F_];rw[zW (zF _)]at hI;exact⟨s,rfl,hI⟩) n 0 [] (by omega) (by omega) (yO.nil List.Pairwise.nil)
 rw[zV]at this;exact this
def z8v(h:AP d)(hs:lO d s)(hn:5000<=n):∃l,ym n d s=some l/\fW l/\l.length<=12/\∀x,x∈l↔lO d x/\oU d x s:=by
 have hd:=h.len;have key:∀(m i:Nat)(l:V Str),d.length+1-i<=m->i<=l.length->WL d (fun x=>oU d x s) l->s∈l->(∀y∈l.take i,∀x∈d,y∈x.Supers->x.Name∈l)->
   ∃r,OK d n m i l=some r/\fW r/\r.length<=12/\∀x,x∈r↔lO d x/\oU d x s:=by
  intro m;induction m with
  |zero=>intro i l hm hi hw;have:=hw.len;omega|succ m ih=>
   intro i l hm hi hw FV eZ;have CQ:=hw.len;unfold OK;by_cases aF:i<l.length;obtain⟨y,hy,CF⟩:=eA aF;simp only[gP aF,zC];have:=jL (l:=d) (by omega) (F:=fun m' z (l':V Str)=>SI d n i (OK d n m) m' z l') (fun k l'=>WL d (fun x=>oU d x s) l'/\(∃t,l'=l++t)/\∀x∈d.take k,y∈x.Supers->x.Name∈l') (Q:=fun r=>fW r/\r.length<=12/\∀x,x∈r↔lO d x/\oU d x s)
    (fun m' k x l' hx tQ bF wB hI lJ=>by
     obtain⟨HN,⟨t,jN⟩,HM⟩:=hI;have fT:=zX hx;have hl'':=HN.len;have JX:l'[i]? = some y:=by rw[jN,List.getElem?_append_left aF];exact hy
     have Iy:=(h.siz x fT).1;simp only[SI,bF,zC,cH,hx,aP,JX,O9 (l:=x.Supers) (by omega) y (n:=n) (by omega),O9 (l:=l') (by omega) x.Name (n:=n) (by omega),Py,wB];by_cases h1:y∈x.Supers;by_cases h2:x.Name∈l';simp only[h1,h2,yC,zC,aP,Bool.not_true,zD];refine lJ l' ⟨HN,⟨t,jN⟩,fun z hz Iq=>?_⟩;rw[iY hx]at hz;rcases yD.1 hz with hz |hz;exact HM z hz Iq;simp at hz;subst hz;exact h2;simp only[h1,h2,yC,yB,zC,aP,Bool.not_false];rw[fO (by omega)];have hys:=(hw.mem y CF).2;refine lJ (l'++[x.Name]) ⟨HN.snoc h2 ⟨⟨x,fT,rfl⟩,(oU.step .refl fT rfl h1).trans hys⟩,⟨t++[x.Name],by rw[jN,zT]⟩,fun z hz Iq=>?_⟩;rw[iY hx]at hz;rcases yD.1 hz with hz |hz;exact List.mem_append_left _ (HM z hz Iq);simp at hz;subst hz;simp;simp only[h1,yB,zD,aP];refine lJ l' ⟨HN,⟨t,jN⟩,fun z hz Iq=>?_⟩;rw[iY hx]at hz;rcases yD.1 hz with hz |hz;exact HM z hz Iq;simp at hz;subst hz;exact absurd Iq h1)
    (fun m' l' bF hI=>by
     obtain⟨HN,⟨t,jN⟩,HM⟩:=hI;rw[zW (zF _)]at HM;simp only[SI,bF,zD,ll,iF aF (show l.length<=9223372036854775807 by omega)];refine ih (i+1) l' (by omega) (by rw[jN];simp;omega) HN (by rw[jN];exact List.mem_append_left _ FV) fun z hz x hx hzx=>?_;rw[jN,List.take_append_of_le_length (by omega),iY hy]at hz;rcases yD.1 hz with hz |hz
     rw[jN];exact List.mem_append_left _ (eZ z hz x hx hzx);simp at hz;subst hz;exact HM x hx hzx) n 0 l (by omega) (by omega) ⟨hw,⟨[],by simp⟩,by simp⟩
   rw[zV]at this;exact this;have kY:i=l.length:=by omega
   subst kY;rw[zW (zF _)]at eZ;simp only[hX aF,zD,lu];obtain⟨out,g1,g2⟩:=(z6y (l:=l) (by omega) hn).1;have aZ:=g2.len;simp at aZ;refine⟨out,g1,g2.asc,by omega,fun x=>?_⟩;rw[g2.mem];simp only[List.not_mem_nil,false_or];constructor;exact fun hx=>hw.mem x hx;rintro⟨_,hu⟩;have:∀{t:Str},oU d x t->t∈l->x∈l:=by
    intro t ht;induction ht with
    |refl=>exact id|step _ h2 h3 h4 ih=>exact fun hu=>ih (h3 ▸ eZ _ hu _ h2 h4)
   exact this hu FV
 obtain⟨j,x,g1,g2,g3⟩:=dy (d:=d) (by omega) hs (n:=n) (by omega);have hj:¬ (j:Int)<0:=by omega
 simp only[ym,g3,aP,hj,yB,zD];have:=key n 0 [s] (by omega) (by omega) ⟨by simp,fun t ht=>by simp at ht;subst ht;exact⟨hs,.refl⟩⟩ (by simp) (by simp);rw[zV]at this;exact this
def qvm(h:Mx d){x y:bL}(hx:x∈d)(hy:y∈d)(e:x.Name=y.Name):x=y:=by
 have:=h.nod;clear h;induction d with
 |nil=>cases hx|cons z d ih=>rw[zQ,List.nodup_cons]at this;rcases zI.1 hx with h1 |h1;rcases zI.1 hy with h2 |h2;rw[h1,h2];exact absurd (List.mem_map.2 ⟨y,h2,by rw[<-e,h1]⟩) this.1;rcases zI.1 hy with h2 |h2;exact absurd (List.mem_map.2 ⟨x,h1,by rw[e,h2]⟩) this.1;exact ih h1 h2 this.2
def z8n(h:AP d)(hs:lO d s)(hn:5000<=n):∃l,yn n d s=some l/\fW l/\l.length<=12/\∀x,x∈l↔lO d x/\oU d s x:=by
 have hd:=h.len;have key:∀(m i:Nat)(l:V Str),d.length+1-i<=m->i<=l.length->WL d (fun x=>oU d s x) l->s∈l->(∀y∈l.take i,∀x∈d,x.Name=y->∀u∈x.Supers,u∈l)->
   ∃r,OL d n m i l=some r/\fW r/\r.length<=12/\∀x,x∈r↔lO d x/\oU d s x:=by
  intro m;induction m with
  |zero=>intro i l hm hi hw;have:=hw.len;omega|succ m ih=>
   intro i l hm hi hw FV eZ;have CQ:=hw.len;unfold OL;by_cases aF:i<l.length;obtain⟨y,hy,CF⟩:=eA aF;obtain⟨j,x,g1,g2,g3⟩:=dy (d:=d) (by omega) (hw.mem y CF).1 (n:=n) (by omega);have fT:=zX g1;have Iy:=(h.siz x fT).1;simp only[gP aF,zC,cH,hy,aP,g3,g1];have:=jL (l:=x.Supers) (by omega) (F:=fun m' z (l':V Str)=>SJ n i (OL d n m) x m' z l') (fun k l'=>WL d (fun x=>oU d s x) l'/\(∃t,l'=l++t)/\∀u∈x.Supers.take k,u∈l') (Q:=fun r=>fW r/\r.length<=12/\∀x,x∈r↔lO d x/\oU d s x)
    (fun m' k u l' hu tQ bF wB hI lJ=>by obtain⟨HN,⟨t,jN⟩,HM⟩:=hI;have pb:=zX hu;have hl'':=HN.len;simp only[SJ,bF,zC,cH,hu,aP,O9 (l:=l') (by omega) u (n:=n) (by omega),Pz,wB];by_cases h2:u∈l';simp only[h2,yC,Bool.not_true,zD];refine lJ l' ⟨HN,⟨t,jN⟩,fun z hz=>?_⟩;rw[iY hu]at hz;rcases yD.1 hz with hz |hz;exact HM z hz;simp at hz;subst hz;exact h2;simp only[h2,yB,Bool.not_false,zC];rw[fO (by omega)];refine lJ (l'++[u]) ⟨HN.snoc h2 ⟨(h.sup x fT).1 u pb,.step (hw.mem y CF).2 fT g2 pb⟩,⟨t++[u],by rw[jN,zT]⟩,fun z hz=>?_⟩;rw[iY hu]at hz;rcases yD.1 hz with hz |hz;exact List.mem_append_left _ (HM z hz);simp at hz;subst hz;simp)
    (fun m' l' bF hI=>by
     obtain⟨HN,⟨t,jN⟩,HM⟩:=hI;rw[zW (zF _)]at HM;simp only[SJ,bF,zD,lw,iF aF (show l.length<=9223372036854775807 by omega)];refine ih (i+1) l' (by omega) (by rw[jN];simp;omega) HN (by rw[jN];exact List.mem_append_left _ FV) fun z hz w wB ss u hu=>?_;rw[jN,List.take_append_of_le_length (by omega),iY hy]at hz;rcases yD.1 hz with hz |hz
     rw[jN];exact List.mem_append_left _ (eZ z hz w wB ss u hu);simp at hz;subst hz;have:=qvm h.nam wB fT (ss.trans g2.symm);subst this;exact HM u hu) n 0 l (by omega) (by omega) ⟨hw,⟨[],by simp⟩,by simp⟩
   rw[zV]at this;exact this;have kY:i=l.length:=by omega
   subst kY;rw[zW (zF _)]at eZ;simp only[hX aF,zD,lx];obtain⟨out,g1,g2⟩:=(z6y (l:=l) (by omega) hn).2;have aZ:=g2.len;simp at aZ;refine⟨out,g1,g2.asc,by omega,fun x=>?_⟩;rw[g2.mem];simp only[List.not_mem_nil,false_or];constructor;exact fun hx=>hw.mem x hx;rintro⟨_,hu⟩;clear g1 g2;induction hu with
   |refl=>exact FV|step h1 h2 h3 h4 ih=>exact eZ _ (ih ⟨_,h2,h3⟩) _ h2 h3 _ h4
 obtain⟨j,x,g1,g2,g3⟩:=dy (d:=d) (by omega) hs (n:=n) (by omega);have hj:¬ (j:Int)<0:=by omega
 simp only[yn,g3,aP,hj,yB,zD];have:=key n 0 [s] (by omega) (by omega) ⟨by simp,fun t ht=>by simp at ht;subst ht;exact⟨hs,.refl⟩⟩ (by simp) (by simp);rw[zV]at this;exact this
def zea(h:AP d){a b:Str}(ha:lO d a)(hb:lO d b)(h1:oU d a b)(h2:oU d b a):a=b:=by
 obtain⟨l,hl,aZ⟩:=h.ord;have cU:∀s,lO d s->s∈l:=fun s ⟨x,hx,e⟩=>by
  apply Classical.byContradiction;intro hn;have h3:=Og (a:=s::l) (b:=d.map bL.Name) (List.nodup_cons.2 ⟨hn,hl.nodup.1⟩) fun t ht=>by rcases zI.1 ht with rfl |ht;rw[<-e];exact List.mem_map_of_mem hx;obtain⟨y,hy,rfl⟩:=hl.nodup.2 t ht;exact List.mem_map_of_mem hy
  simp at h3;omega
 have mU:∀{l:V Str},Ord d l->∀s∈l,∀t,oU d s t->∃l1 l2,l=l1++s::l2/\(t=s\/t∈l1):=by
  intro l hl;induction hl with
  |nil=>intro s hs;cases hs| @snoc l x g1 g2 g3 g4 ih=>
   have eZ:∀s∈l,∀t,oU d s t->t∈l:=fun s hs t ht=>by obtain⟨l1,l2,e1,e2⟩:=ih s hs t ht;rcases e2 with rfl |e2;exact hs;rw[e1];exact List.mem_append_left _ e2
   intro s hs t ht;rcases yD.1 hs with hs |hs;obtain⟨l1,l2,e1,e2⟩:=ih s hs t ht;exact⟨l1,l2++[x.Name],by rw[e1];simp,e2⟩;simp at hs;subst hs;refine⟨l,[],rfl,?_⟩;induction ht with
   |refl=>exact .inl rfl|step _ h2 h3 h4 lJ=>rcases lJ with e |e;have:=qvm h.nam h2 g2 (h3.trans e);subst this;exact .inr (g4 _ h4);exact .inr (eZ _ e _ (.step .refl h2 h3 h4))
 obtain⟨l1,l2,e1,e2⟩:=mU hl a (cU a ha) b h1;obtain⟨l3,l4,e3,e4⟩:=mU hl b (cU b hb) a h2;rcases e2 with e2 |e2;exact e2.symm;rcases e4 with e4 |e4;exact e4
 ·-- b ahead of a,and a ahead of b
  have hn:=hl.nodup.1;obtain⟨p,q,e5⟩:=List.append_of_mem e2;rw[e5]at e1;have:l3=p:=by
   have vH:b ∉ p:=fun hp=>by rw[e1]at hn;simp only[zT,List.cons_append]at hn;rw[List.nodup_append]at hn;exact hn.2.2 b hp b (by simp) rfl
   have py:b ∉ l3:=fun hp=>by rw[e3,List.nodup_append]at hn;exact hn.2.2 b hp b (by simp) rfl
   rw[e1]at e3;simp only[zT,List.cons_append]at e3;clear e1 hn e5 e4 hl;induction p generalizing l3 with
   |nil=>rcases l3 with _|⟨z,l3⟩;rfl;simp at e3;exact absurd (by rw[e3.1];simp) py
   |cons y p ihp=>rcases l3 with _|⟨z,l3⟩;simp at e3;exact absurd (by rw[<-e3.1];simp) vH;simp at e3;rw[<-e3.1,ihp l3 (fun hh=>vH (List.mem_cons_of_mem _ hh)) (fun hh=>py (List.mem_cons_of_mem _ hh)) e3.2]
  rw[this]at e4;rw[e1]at hn;exact absurd rfl ((List.nodup_append.1 hn).2.2 a (List.mem_append_left _ e4) a (by simp))
def qy7(h:AP d)(hl:l.length<=1000)(hn:5000<=n):∃out,lj n d l=some out/\fW out/\out.length<=l.length/\∀x∈out,x∈l/\lO d x:=by
 have hd:=h.len;have:=jL (l:=l) (by omega) (F:=fun m z s=>SP d l n m s z) (fun i s=>fW s/\s.length<=i/\∀x∈s,x∈l/\lO d x) (Q:=fun out=>fW out/\out.length<=l.length/\∀x∈out,x∈l/\lO d x)
  (fun m i x s hx aF bF hw hI ih=>by
   obtain⟨i1,i2,i3⟩:=hI;simp only[SP,bF,zC,cH,hx,aP,Ri,hw];rcases O4 (d:=d) (by omega) x (show d.length<n by omega)with⟨j,y,g1,g2,g3,g4⟩|⟨g1,g2⟩;obtain⟨o,h1,h2,h3,h4⟩:=Fa (l:=s) (by omega) i1 x (show s.length<n by omega);have hj:(j:Int)>=0:=by omega
   simp only[g4,aP,hj,yC,zC,h1];refine ih o ⟨h4,by omega,fun z hz=>?_⟩;rcases(h2 z).1 hz with rfl |hz;exact⟨zX hx,y,zX g1,g2⟩;exact i3 z hz;simp only[g2,aP];exact ih s ⟨i1,by omega,i3⟩)
  (fun m s bF hI=>by simp only[SP,bF,zD,c?];exact⟨s,rfl,hI⟩) n 0 [] (by omega) (by omega) ⟨List.Pairwise.nil,by simp,by simp⟩
 rw[zV]at this;exact this
def qsq(h:AP d)(hl:l.length<=1000)(hn:5000<=n):∃out,Qg n d l=some out/\out.length<=l.length/\∀x∈out,x∈l/\lO d x:=by
 obtain⟨all,a1,a2,a3,a4⟩:=qy7 h hl hn;have:=jL (l:=all) (by omega) (F:=fun m z s=>MT d n all m z s) (fun i s=>s.length<=i/\∀x∈s,x∈l/\lO d x) (Q:=fun out=>out.length<=l.length/\∀x∈out,x∈l/\lO d x)
  (fun m i x s hx aF bF hw hI ih=>by
   obtain⟨i2,i3⟩:=hI;have fT:=a4 x (zX hx);obtain⟨up,u1,u2,u3,u4⟩:=z8n h fT.2 hn;simp only[MT,bF,zC,cH,hx,aP,u1];have:=jL (l:=all) (by omega) (F:=fun m' z b=>Ic n all i s (MT d n all m) up m' b z) (fun _ _=>True) (Q:=fun out=>out.length<=l.length/\∀x∈out,x∈l/\lO d x)
    (fun m' k y b hy tQ dI y4 _ lJ=>by
     simp only[Ic,dI,zC,y4,cH,hy,aP,O9 (l:=up) (by omega) y (n:=n) (by omega)];cases b with
     |true=>rcases((k:Int)==(i:Int))with _|_;exact lJ _ trivial;exact lJ true trivial
     |false=>exact lJ false trivial)
    (fun m' b dI _=>by
     simp only[Ic,dI,zD,my,Rb,hw,cH,hx,aP];cases b with
     |true=>simp only[zC];rw[fO (by omega)];refine ih (s++[x]) ⟨by simp;omega,fun z hz=>?_⟩;rcases yD.1 hz with hz |hz;exact i3 z hz;simp at hz;subst hz;exact fT
     |false=>exact ih s ⟨by omega,i3⟩) n 0 true (by omega) (by omega) trivial
   rw[zV]at this;exact this)
  (fun m s bF hI=>by simp only[MT,bF,zD,U_];exact⟨s,rfl,by omega,hI.2⟩) n 0 [] (by omega) (by omega) ⟨by simp,by simp⟩
 rw[zV]at this;rw[Qg,a1];exact this
end Go.Proofs
