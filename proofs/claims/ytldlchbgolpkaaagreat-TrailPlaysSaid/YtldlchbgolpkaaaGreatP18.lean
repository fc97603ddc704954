import Derived.Shelf.SlSortCmp.WholeK
import Derived.Test.YtldlchbgolpkaaaGreatP17
set_option linter.all false
namespace Go.Vx
open Go Go.Rx Go.Proofs Go.Sort
def N4{α:Type}(lt:α->α->Bool)(x:α):List α->List α
 |[]=>[x]|y::l=>cond (lt y x) (y::N4 lt x l) (x::y::l)
def srt{α:Type}(lt:α->α->Bool):List α->List α
 |[]=>[]|x::l=>N4 lt x (srt lt l)
theorem Xz{α:Type}(lt:α->α->Bool)(x:α):∀l,(N4 lt x l).Perm (x::l)
 |[]=>.refl _|y::l=>by simp only[N4];rcases lt y x with _|_;exact .refl _;exact((Xz lt x l).cons y).trans (.swap _ _ _)
theorem pd{α:Type}(lt:α->α->Bool):∀l,(srt lt l).Perm l
 |[]=>.refl _|x::l=>(Xz lt x _).trans ((pd lt l).cons x)
def Asc{α:Type}(lt:α->α->Bool)(l:List α):Prop:=l.Pairwise (fun x y=>lt y x=false)
theorem bf{α:Type}{lt:α->α->Bool}(h:SWO lt)(x:α):∀{l},Asc lt l->Asc lt (N4 lt x l)
 |[],_=>by simp[N4,Asc]
 |y::l,ha=>by
  simp only[N4];unfold Asc at ha ⊢;rw[List.pairwise_cons]at ha;cases hy:lt y x with
  |true=>simp only[zC];rw[List.pairwise_cons];refine⟨fun z hz=>?_,bf h x ha.2⟩;have:=(Xz lt x l).mem_iff.1 hz;rcases zI.1 this with rfl |hz;rcases hzy:lt z y with _|_;rfl;have:=h.trans y z y hy hzy;rw[h.irrefl]at this;cases this;exact ha.1 z hz
  |false=>simp only[zD];rw[List.pairwise_cons];refine⟨fun z hz=>?_,List.pairwise_cons.2 ha⟩;rcases zI.1 hz with rfl |hz;exact hy;exact h.ntrans z y x (ha.1 z hz) hy
theorem yq{α:Type}{lt:α->α->Bool}(h:SWO lt):∀l,Asc lt (srt lt l)
 |[]=>by simp[srt,Asc]
 |x::l=>bf h x (yq h l)
end Go.Vx
namespace Go.Proofs
open Go Go.Rx Go.Vx Go.Shelf Go.Sort
theorem Za:∀a b:List UInt8,iX a b=true↔a=b
 |[],[]=>by simp[iX]
 |[],_::_=>by simp[iX]
 |_::_,[]=>by simp[iX]
 |x::a,y::b=>by have h:(x.toNat=y.toNat)↔x=y:=UInt8.toNat_inj;simp only[iX,beq_eq];by_cases e:x=y;subst e;simp[Za a b];simp[e,mt h.1 e]
theorem z9u(a b:Nat):Nat.blt a b=true↔a<b:=by
 unfold Nat.blt;rw[Nat.ble_eq];exact Iff.rfl
theorem oT(a b:Nat):Nat.blt a b=decide (a<b):=by
 rw[Bool.eq_iff_iff,z9u];simp
theorem qj3:∀a:List UInt8,iI a a=false
 |[]=>rfl|x::a=>by simp[iI,oT,qj3 a]
theorem qkc:∀a b c:List UInt8,iI a b=true->iI b c=true->iI a c=true
 |_,[],_,h,_=>by simp[iI]at h
 |_,_::_,[],_,h=>by simp[iI]at h
 |[],_::_,_::_,_,_=>by simp[iI]
 |x::a,y::b,z::c,h1,h2=>by
  simp only[iI,oT,beq_eq]at*;by_cases h:x.toNat<y.toNat;by_cases h':y.toNat<z.toNat;have:x.toNat<z.toNat:=by omega
  simp[this];simp only[h',yB,zD]at h2;by_cases e:y.toNat=z.toNat;have:x.toNat<z.toNat:=by omega
  simp[this];simp[e]at h2;simp only[h,yB,zD]at h1;by_cases e:x.toNat=y.toNat;simp only[e,yC,zC]at h1;by_cases h':y.toNat<z.toNat;simp[e,h'];simp only[h',yB,zD]at h2;by_cases e':y.toNat=z.toNat;simp only[e',yC,zC]at h2;have:=qkc a b c h1 h2;simp[e,e',this];simp[e']at h2;simp[e]at h1
theorem qkb:∀a b:List UInt8,iI a b=false->iI b a=false->a=b
 |[],[],_,_=>rfl|[],_::_,h,_=>by simp[iI]at h
 |_::_,[],_,h=>by simp[iI]at h
 |x::a,y::b,h1,h2=>by
  simp only[iI,oT,beq_eq]at*;by_cases h:x.toNat<y.toNat;simp[h]at h1;by_cases h':y.toNat<x.toNat;simp[h']at h2;have e:x.toNat=y.toNat:=by omega
  simp only[e,Nat.lt_irrefl,yB,zD,yC,zC]at h1 h2;rw[qkb a b h1 h2,UInt8.toNat_inj.1 e]
variable{α:Type}
theorem aL{β:Type}(a:α)(k:α->Option β):a7 (some a) k=k a:=rfl
theorem wr{z:Int}(h1 : -9223372036854775808<=z)(h2:z<=9223372036854775807):IntKind.i64.wrap z=z:=wrap_i64 (by omega) (by omega)
variable{i:Nat}
theorem gI{len:Nat}(h:i<len)(hl:len<=9223372036854775807):IntKind.i64.wrap ((i:Int)+1)=((i+1:Nat):Int):=by rw[wr (by omega) (by omega)];simp
theorem yS{z:Int}{k:Nat}(h:z=k)(h2:k<=9223372036854775807):IntKind.i64.wrap z=(k:Int):=by subst h;exact wr (by omega) (by omega)
variable{l:List α}
theorem dM(h:i<l.length):∃x,l[i]? = some x/\x∈l:=⟨l[i],by simp[h],by simp⟩
variable{x:α}
theorem gM(h:l[i]? = some x):l.take (i+1)=l.take i++[x]:=by rw[List.take_add_one,h];rfl
theorem aQ(h:l[i]? = some x):l.drop i=x::l.drop (i+1):=by
 have hlt:i<l.length:=(zG.1 h).1;rw[List.drop_eq_getElem_cons hlt];congr 1;rw[List.getElem?_eq_getElem hlt]at h;exact Option.some.inj h
theorem fO{n:Nat}(h:i<n):decide ((i:Int)<(n:Int))=true:=by simp;omega
theorem fX{n:Nat}(h:¬ i<n):decide ((i:Int)<(n:Int))=false:=by simp;omega
theorem bG(h:¬ i<l.length):l.drop i=[]:=List.drop_eq_nil_of_le (by omega)
structure Cmp{α:Type}(c:α->α->Int):Prop where
 val:∀x y,c x y= -1\/c x y=0\/c x y=1
 anti:∀x y,c y x= - c x y
 trans:∀x y z,c x y<=0->c y z<=0->c x z<=0
variable{c:α->α->Int}
theorem Cmp.self(h:Cmp c)(x:α):c x x=0:=by have:=h.anti x x;omega
variable{y:α}
theorem Cmp.congr(h:Cmp c)(hxy:c x y=0)(z:α):c x z=c y z:=by
 have h1:=h.val x z;have h2:=h.val y z;have a1:=h.anti x y;have a2:=h.anti x z;have a3:=h.anti y z;have t1:=h.trans x y z;have t2:=h.trans y x z;have t3:=h.trans z x y;have t4:=h.trans z y x;omega
theorem Cmp.congr'(h:Cmp c)(hxy:c x y=0)(z:α):c z x=c z y:=by
 have h1:=h.congr hxy z;have a2:=h.anti x z;have a3:=h.anti y z;omega
theorem Cmp.lt_of(h:Cmp c){z:α}(h1:c x y<0)(h2:c y z<=0):c x z<0:=by
 have t1:=h.trans x y z (by omega) h2;rcases Int.lt_or_eq_of_le t1 with h3 |h3;exact h3;have:=h.congr h3 y;have a3:=h.anti y z;omega
def yL{α:Type}(c d:α->α->Int)(x y:α):Int:=if c x y≠0 then c x y else d x y
theorem Cmp.lex{d:α->α->Int}(hc:Cmp c)(hd:Cmp d):Cmp (yL c d) where
 val x y:=by unfold yL;split;exact hc.val x y;exact hd.val x y
 anti x y:=by
  unfold yL;have a1:=hc.anti x y;have a2:=hd.anti x y;by_cases h:c x y=0;have:c y x=0:=by omega
  simp[h,this,a2];have:¬ c y x=0:=by omega
  simp[h,this,a1]
 trans x y z h1 h2:=by
  unfold yL at*;by_cases h:c x y=0;have e:=hc.congr h z;simp only[h,ne_eq,not_true,if_false]at h1;rw[e];by_cases h':c y z=0;simp only[h',ne_eq,not_true,if_false]at h2 ⊢;exact hd.trans x y z h1 h2;simp only[h',ne_eq,not_false_eq_true,if_true]at h2 ⊢;exact h2;simp only[h,ne_eq,not_false_eq_true,if_true]at h1;have sJ:c x y<0:=by omega
  by_cases h':c y z=0;have e:=hc.congr' h' x;rw[<-e];simp only[h,ne_eq,not_false_eq_true,if_true];exact h1;simp only[h',ne_eq,not_false_eq_true,if_true]at h2;have:=hc.lt_of sJ h2;have hne:¬ c x z=0:=by omega
  simp only[hne,ne_eq,not_false_eq_true,if_true];omega
theorem Xy{d:α->α->Int}:yL c d x y=0↔c x y=0/\d x y=0:=by
 unfold yL;by_cases h:c x y=0<;>simp[h]
theorem Cmp.pull{β:Type}(h:Cmp c)(f:β->α):Cmp (fun x y=>c (f x) (f y)):=⟨fun x y=>h.val _ _,fun x y=>h.anti _ _,fun x y z=>h.trans _ _ _⟩
def mC(a b:Int):Int:=if a<b then -1 else if b<a then 1 else 0
theorem Bb {a b : Int} : mC a b = 0 ↔ a = b := by
 unfold mC;split;omega;split<;>omega
theorem UW:Cmp mC where
  val x y := by unfold mC; split; · simp
                split<;>simp
  anti x y:=by unfold mC;split<;>split<;>(try split)<;>omega
  trans x y z:=by unfold mC;intro h1 h2;split at h1<;>split at h2<;>(try split at h1)<;>(try split at h2)<;>(try split)<;>(try split)<;>omega
theorem z72(c:α->α->Int)(x y:α):ltOf c x y=true↔c x y<0:=by simp[ltOf]
theorem Cmp.swo(h:Cmp c):SWO (ltOf c) where
 irrefl x:=by have:=h.self x;simp[ltOf,this]
 trans x y z h1 h2:=by rw[z72]at*;exact h.lt_of h1 (by omega)
 ntrans x y z h1 h2:=by
  have e:∀a b,ltOf c a b=false↔c b a<=0:=fun a b=>by have:=h.anti a b;simp[ltOf];omega
  rw[e]at*;exact h.trans z y x h2 h1
section
variable{α:Type}{c:α->α->Int}
theorem OD(hc:Cmp c)(l:List α):(srt (ltOf c) l).Pairwise (fun x y=>c x y<=0):=by
 have:=yq hc.swo l;refine List.Pairwise.imp ?_ this;intro x y h;have:=hc.anti x y;simp[ltOf]at h;omega
end
end Go.Proofs
namespace Go.Vx
open Go Go.Rx
section
variable{K V:Type}[DecidableEq K]
def qJ(k:K):List (K×V×Nat)->Option V
 |[]=>none|e::es=>if k=e.1 then some e.2.1 else qJ k es
variable{eq:K->K->Bool}(he:∀a b,eq a b=true↔a=b)
include he
omit [DecidableEq K] in
theorem Ja{a b:K}(h:¬ a=b):eq a b=false:=by
 rcases h':eq a b with _|_;rfl;exact absurd ((he a b).1 h') h
theorem Xe(k:K):∀(es:List (K×V×Nat))(i:Nat),(tX eq k es i).map (fun x=>x.2.1)=qJ k es
 |[],i=>rfl|e::es,i=>by simp only[tX,qJ];by_cases h:k=e.1;rw[(he k e.1).2 h,if_pos h];rfl;rw[Ja he h,if_neg h];exact Xe k es (i+1)
theorem z73(m:i8 K V)(k:K):AO eq m k=qJ k m.es:=Xe he k m.es 0
theorem uf(k:K)(v:V):∀{es:List (K×V×Nat)}{i j:Nat}{q:V×Nat},tX eq k es i=some (j,q)->i<=j/\∀x,qJ x (tU v es (j-i))=if x=k then some v else qJ x es
 |[],i,j,q,h=>by cases h
 |e::es,i,j,q,h=>by simp only[tX]at h;by_cases hk:k=e.1;rw[(he k e.1).2 hk]at h;simp only[zC,zA,zB]at h;obtain⟨rfl,_⟩:=h;refine⟨zF _,fun x=>?_⟩;simp only[Nat.sub_self,tU,qJ,hk];split<;>rfl;rw[Ja he hk]at h;simp only[zD]at h;obtain⟨h1,h2⟩:=uf k v h;refine⟨by omega,fun x=>?_⟩;rw[show j-i=(j-(i+1))+1 by omega];simp only[tU,qJ,h2];by_cases hx:x=e.1;have:¬ x=k:=fun h=>hk (h ▸ hx);simp[hx];intro h;exact absurd h.symm hk;simp[hx]
omit he [DecidableEq K] in
theorem pf(v:V):∀(es:List (K×V×Nat))(i:Nat),(tU v es i).map (fun e=>e.1)=es.map (fun e=>e.1)/\(tU v es i).map (fun e=>e.2.2)=es.map (fun e=>e.2.2)
 |[],i=>by simp[tU]
 |e::es,0=>by simp[tU]
 |e::es,i+1=>by simp[tU,pf v es i]
omit he in
theorem BQ(x k:K)(v:V)(b:Nat):∀es:List (K×V×Nat),qJ x (es++[(k,v,b)])=if qJ x es=none then(if x=k then some v else none)else qJ x es
 |[]=>by simp[qJ]
 |e::es=>by simp only[List.cons_append,qJ];by_cases hx:x=e.1;simp[hx];simp only[hx,if_false];exact BQ x k v b es
structure MInv(m:i8 K V):Prop where
 keys:(m.es.map (fun e=>e.1)).Nodup
 borns:(m.es.map (fun e=>e.2.2)).Nodup
 lt:∀e∈m.es,e.2.2<m.cl
omit he in
theorem MInv.app{m:i8 K V}(h:MInv m){k:K}(hf:qJ k m.es=none)(v:V):MInv (⟨m.es++[(k,v,m.cl)],m.cl+1⟩:i8 K V):=by
 refine⟨?_,?_,?_⟩;simp only[List.map_append,zQ,List.map_nil];rw[List.nodup_append];refine⟨h.keys,by simp,?_⟩;intro a ha b hb hab;simp only[List.mem_singleton]at hb;subst hab hb;clear h;generalize m.es=es at*;induction es with
 |nil=>simp at ha|cons e es ih=>simp only[qJ]at hf;by_cases hx:a=e.1;simp[hx]at hf;simp only[hx,if_false]at hf;simp only[zQ,zI,hx,false_or]at ha;exact ih ha hf
 simp only[List.map_append,zQ,List.map_nil];rw[List.nodup_append];refine⟨h.borns,by simp,?_⟩;intro a ha b hb hab;simp only[List.mem_singleton]at hb;obtain⟨e,he,rfl⟩:=List.mem_map.1 ha;have:=h.lt e he;omega;intro e he;rcases yD.1 he with he |he;have:=h.lt e he;simp only;omega;simp only[List.mem_singleton]at he;subst he;simp
omit he [DecidableEq K] in
theorem MInv.set{m:i8 K V}(h:MInv m)(v:V)(i:Nat):MInv (⟨tU v m.es i,m.cl⟩:i8 K V):=by
 obtain⟨h1,h2⟩:=pf v m.es i;refine⟨by simp only[h1];exact h.keys,by simp only[h2];exact h.borns,fun e he=>?_⟩;have:e.2.2∈(tU v m.es i).map (fun e=>e.2.2):=List.mem_map.2 ⟨e,he,rfl⟩;rw[h2]at this;obtain⟨e',g1,g2⟩:=List.mem_map.1 this;have:=h.lt e' g1;simp only at g2 ⊢;omega
theorem NF{m:i8 K V}(h:MInv m)(k:K)(v:V):MInv (vT eq m k v)/\∀x,qJ x (vT eq m k v).es=if x=k then some v else qJ x m.es:=by
 unfold vT;cases hf:tX eq k m.es 0 with
 |none=>
  have hg:qJ k m.es=none:=by rw[<-Xe he k m.es 0,hf];rfl
  refine⟨h.app hg v,fun x=>?_⟩;simp only[BQ];by_cases hx:x=k;simp[hx,hg];simp only[hx,if_false];split<;>simp_all
 |some q=>obtain⟨j,q⟩:=q;have:=(uf he k v hf).2;exact⟨h.set v j,fun x=>by simpa using this x⟩
end
end Go.Vx
namespace Go.Proofs
open Go Go.Rx Go.Vx Go.Shelf Go.Sort
set_option maxRecDepth 10000
def lG{α:Type}(c:α->α->Int):List α->List α->Int
 |[],[]=>0|[],_::_=>-1
 |_::_,[]=>1|x::xs,y::ys=>if c x y≠0 then c x y else lG c xs ys
theorem Cmp.list{α:Type}{c:α->α->Int}(h:Cmp c):Cmp (lG c) where
 val:=by
  intro x;induction x with
  |nil=>intro y;cases y<;>simp[lG]|cons a x ih=>intro y;rcases y with _|⟨b,y⟩;simp[lG];simp only[lG];split;exact h.val a b;exact ih y
 anti:=by
  intro x;induction x with
  |nil=>intro y;cases y<;>simp[lG]|cons a x ih=>
   intro y;rcases y with _|⟨b,y⟩;simp[lG];simp only[lG];have a1:=h.anti a b;have a2:=ih y;by_cases e:c a b=0;have:c b a=0:=by omega
   simp[e,this,a2];have:¬ c b a=0:=by omega
   simp[e,this,a1]
 trans:=by
  intro x;induction x with
  |nil=>intro y z h1 h2;cases z<;>simp[lG]|cons a x ih=>
   intro y z h1 h2;rcases y with _|⟨b,y⟩;simp[lG]at h1;rcases z with _|⟨d,z⟩;simp[lG]at h2;simp only[lG]at*;by_cases e:c a b=0;have e2:=h.congr e d;simp only[e,ne_eq,not_true,if_false]at h1;rw[e2];by_cases e3:c b d=0;simp only[e3,ne_eq,not_true,if_false]at h2 ⊢;exact ih y z h1 h2;simp only[e3,ne_eq,not_false_eq_true,if_true]at h2 ⊢;exact h2;simp only[e,ne_eq,not_false_eq_true,if_true]at h1;have sJ:c a b<0:=by omega
   by_cases e3:c b d=0;have e4:=h.congr' e3 a;rw[<-e4];simp only[e,ne_eq,not_false_eq_true,if_true];exact h1;simp only[e3,ne_eq,not_false_eq_true,if_true]at h2;have:=h.lt_of sJ h2;have hne:¬ c a d=0:=by omega
   simp only[hne,ne_eq,not_false_eq_true,if_true];omega
theorem Xx{α:Type}{c:α->α->Int}:∀{xs ys:List α},(∀x∈xs,∀y,c x y=0->x=y)->lG c xs ys=0->xs=ys
 |[],[],_,_=>rfl|[],_::_,_,h=>by simp[lG]at h
 |_::_,[],_,h=>by simp[lG]at h
 |x::xs,y::ys,hc,h=>by simp only[lG]at h;by_cases e:c x y=0;simp only[e,ne_eq,not_true,if_false]at h;rw[hc x (by simp) y e,Xx (fun a ha=>hc a (by simp[ha])) h];simp[e]at h
def IK:aF->aF->Int:=yL (fun x y=>mC x.Feat y.Feat) (fun x y=>mC x.To y.To)
theorem T1:Cmp IK:=(UW.pull _).lex (UW.pull _)
theorem z6a{x y:aF}(h:IK x y=0):x=y:=by
 simp only[IK,Xy,Bb]at h;cases x;cases y;simp only at h;obtain⟨rfl,rfl⟩:=h;rfl
def MS:aI->aI->Int:=yL (yL (fun x y=>mC x.Typex y.Typex) (fun x y=>mC x.Arcs.length y.Arcs.length)) (fun x y=>lG IK x.Arcs y.Arcs)
theorem SY:Cmp MS:=((UW.pull _).lex (UW.pull (fun x:aI=>(x.Arcs.length:Int)))).lex (T1.list.pull _)
theorem z6b{x y:aI}(h:MS x y=0):x=y:=by
 simp only[MS,Xy,Bb]at h;have:=Xx (fun a _ b h=>z6a h) h.2;cases x;cases y;simp only at h this;obtain⟨⟨rfl,_⟩,_⟩:=h;subst this;rfl
def T0:aW->aW->Int:=yL (fun x y=>mC x.Nodes.length y.Nodes.length) (fun x y=>lG MS x.Nodes y.Nodes)
theorem SZ:Cmp T0:=(UW.pull (fun x:aW=>(x.Nodes.length:Int))).lex (SY.list.pull _)
theorem bp{x y:aW}:T0 x y=0↔x=y:=⟨fun h=>by
 simp only[T0,Xy,Bb]at h;have:=Xx (fun a _ b h=>z6b h) h.2;cases x;cases y;simp only at this;subst this;rfl,fun h=>by subst h;exact SZ.self x⟩
structure cD(f:aW)(k:Nat):Prop where
 nodes:f.Nodes.length<=k
 arcs:∀x∈f.Nodes,x.Arcs.length<=k
def DY(l:List aF):List Int:=l.flatMap fun a=>[a.Feat,a.To]
def JN(x:aI):List Int:=[x.Typex,(x.Arcs.length:Int)]++DY x.Arcs
def AM(f:aW):List Int:=(f.Nodes.length:Int)::f.Nodes.flatMap JN
theorem Xl:∀l:List aF,(DY l).length=2*l.length
 |[]=>rfl|a::l=>by have:=Xl l;simp only[DY,List.flatMap_cons,zU,zO,zS]at*;omega
theorem mf{x:aI}{i:Int}{rc:Int->List Int->Option (List Int)}(hx:x.Arcs.length<=1000000):∀(m k:Nat)(acc:List Int),x.Arcs.length-k<m->k<=x.Arcs.length->acc.length+2*(x.Arcs.length-k)<=1000000000->
  WK i rc x m k acc=rc (IntKind.i64.wrap (i+1)) (acc++DY (x.Arcs.drop k))
 |0,k,acc,hm,_,_=>by omega
 |m+1,k,acc,hm,hk,ha=>by
  unfold WK;by_cases hlt:k<x.Arcs.length;obtain⟨a,h1,_⟩:=dM hlt;have hn:(acc.length+2)*8<=140737488355328/\acc.length+2<=140737488355328:=by omega
  simp only[fO hlt,zC,c6,h1,aL,aB,hn,and_self,if_true,gI hlt (show x.Arcs.length<=9223372036854775807 by omega)];rw[mf hx m (k+1) _ (by omega) (by omega) (by simp only[zU,zO,zS];omega),aQ h1];simp[DY];simp only[fX hlt,zD,Rf,bG hlt,DY,List.flatMap_nil,List.append_nil]
theorem mh{f:aW}{n:Nat}(hf:cD f 1000)(hn:1001<=n):∀(m i:Nat)(acc:List Int),f.Nodes.length-i<m->i<=f.Nodes.length->acc.length+2002*(f.Nodes.length-i)<=900000000->
  HV f n m i acc=some (acc++(f.Nodes.drop i).flatMap JN)
 |0,i,acc,hm,_,_=>by omega
 |m+1,i,acc,hm,hi,ha=>by
  unfold HV;have hl:=hf.nodes;by_cases hlt:i<f.Nodes.length;obtain⟨x,hx,hxm⟩:=dM hlt;have h2:=hf.arcs x hxm;have hn:(acc.length+2)*8<=140737488355328/\acc.length+2<=140737488355328:=by omega
  have h0:=mf (i:=(i:Int)) (rc:=HV f n m) (x:=x) (by omega) n 0 (acc++[x.Typex,(x.Arcs.length:Int)]) (by omega) (by omega) (by simp only[zU,zO,zS];omega);rw[zV,List.drop_zero]at h0;simp only[fO hlt,zC,c6,hx,aL,aB,hn,and_self,if_true,h0,gI hlt (show f.Nodes.length<=9223372036854775807 by omega)];rw[mh hf (by omega) m (i+1) _ (by omega) (by omega) (by simp only[zU,zO,zS,Xl];omega),aQ hx];simp[JN];simp only[fX hlt,zD,Rg,bG hlt,List.flatMap_nil,List.append_nil]
variable{f:aW}
variable{n:Nat}
theorem me(hf:cD f 1000)(hn:1001<=n):VY n f=some (AM f):=by
 have hl:=hf.nodes;have:=mh hf hn n 0 [(f.Nodes.length:Int)] (by omega) (by omega) (by simp only[zO,zS];omega);rw[zV,List.drop_zero]at this;simp only[VY,this,AM,List.singleton_append]
def uM:List Int->List Int->Int
 |x::xs,y::ys=>if mC x y≠0 then mC x y else uM xs ys|_,_=>0
theorem pu{l m:List Int}(hl:l.length<=1000000000):∀(n i:Nat),l.length-i<n->i<=l.length->WM l m n i=some (uM (l.drop i) (m.drop i))
 |0,i,hn,_=>by omega
 |n+1,i,hn,hi=>by unfold WM;by_cases h1:i<l.length;obtain⟨x,hx,_⟩:=dM h1;by_cases h2:i<m.length;obtain⟨y,hy,_⟩:=dM h2;simp only[fO h1,fO h2,zC,aL,c6,hx,hy,gI h1 (show l.length<=9223372036854775807 by omega),aQ hx,aQ hy,uM,mC];by_cases h3:x<y;simp[h3];by_cases h4:y<x;simp[h3,h4];simp only[h3,h4,yB,zD,if_false,ne_eq,not_true,gt_iff_lt];exact pu hl n (i+1) (by omega) (by omega);simp only[fO h1,fX h2,zC,zD,aL,Ee,aQ hx,bG h2,uM];simp only[fX h1,zD,aL,Ee,bG h1,uM]
theorem z7a{k:Nat}(hf:cD f k):(AM f).length<=1+f.Nodes.length*(2+2*k):=by
 have:∀l:List aI,(∀x∈l,x.Arcs.length<=k)->(l.flatMap JN).length<=l.length*(2+2*k):=by
  intro l;induction l with
  |nil=>intro _;simp|cons x l ih=>
   intro h;have h1:=ih fun y hy=>h y (List.mem_cons_of_mem _ hy);have h2:=h x (by simp);have h3:(l.length+1)*(2+2*k)=l.length*(2+2*k)+(2+2*k):=by rw[Nat.add_mul,Nat.one_mul]
   simp only[List.flatMap_cons,zU,JN,zO,zS,Xl];rw[h3];omega
 have:=this f.Nodes hf.arcs;simp only[AM,zO];omega
theorem z4b{g:aW}(hf:cD f 1000)(hg:cD g 1000)(hn:3000000<=n):Cw n f g=some (uM (AM f) (AM g)):=by
 have h1:=z7a hf;have h2:=hf.nodes;have h3:f.Nodes.length*(2+2*1000)<=1000*(2+2*1000):=Nat.mul_le_mul_right _ h2;have:=pu (l:=AM f) (m:=AM g) (by omega) n 0 (by omega) (by omega);rw[zV,List.drop_zero,List.drop_zero]at this;simp only[Cw,me hf (show 1001<=n by omega),me hg (show 1001<=n by omega),aL,this]
theorem td{c d:List Int}:∀{xs ys:List aF},xs.length=ys.length->uM (DY xs++c) (DY ys++d)=if lG IK xs ys≠0 then lG IK xs ys else uM c d
 |[],[],_=>by simp[DY,lG]
 |[],_::_,h=>by simp at h
 |_::_,[],h=>by simp at h
 |x::xs,y::ys,h=>by simp only[zO,Nat.add_right_cancel_iff]at h;have ih:=td (c:=c) (d:=d) h;simp only[DY,List.flatMap_cons,List.cons_append,List.nil_append,uM,lG]at ih ⊢;rw[ih];unfold IK yL;by_cases e:mC x.Feat y.Feat=0;by_cases e2:mC x.To y.To=0<;>simp[e,e2];simp[e]
theorem V'{c d:List Int}:∀{xs ys:List aI},xs.length=ys.length->uM (xs.flatMap JN++c) (ys.flatMap JN++d)=if lG MS xs ys≠0 then lG MS xs ys else uM c d
 |[],[],_=>by simp[lG]
 |[],_::_,h=>by simp at h
 |_::_,[],h=>by simp at h
 |x::xs,y::ys,h=>by
  simp only[zO,Nat.add_right_cancel_iff]at h;have ih:=V' (c:=c) (d:=d) h;simp only[List.flatMap_cons,JN,zT,List.cons_append,List.nil_append,uM,lG];have hN:MS x y=(if(if mC x.Typex y.Typex≠0 then mC x.Typex y.Typex else mC (x.Arcs.length:Int) y.Arcs.length)≠0 then(if mC x.Typex y.Typex≠0 then mC x.Typex y.Typex else mC (x.Arcs.length:Int) y.Arcs.length)else lG IK x.Arcs y.Arcs):=rfl;simp only[hN];by_cases e:mC x.Typex y.Typex=0;by_cases e2:mC (x.Arcs.length:Int) y.Arcs.length=0;have hl:x.Arcs.length=y.Arcs.length:=by have:=Bb.1 e2;omega
  simp only[e,e2,ne_eq,not_true,if_false];rw[td hl,ih];by_cases e3:lG IK x.Arcs y.Arcs=0<;>simp[e3];simp[e,e2];simp[e]
theorem z9v(f g:aW):uM (AM f) (AM g)=T0 f g:=by
 simp only[AM,uM,T0];unfold yL;by_cases e:mC (f.Nodes.length:Int) g.Nodes.length=0;have hl:f.Nodes.length=g.Nodes.length:=by have:=Bb.1 e;omega
 have:=V' (c:=[]) (d:=[]) hl;simp only[List.append_nil,uM]at this;simp only[e,ne_eq,not_true,if_false,this];by_cases e2:lG MS f.Nodes g.Nodes=0<;>simp[e2];simp[e]
theorem pq{g:aW}(hf:cD f 1000)(hg:cD g 1000)(hn:3000000<=n):C0 n f g=some (T0 f g==0):=by
 simp only[C0,z4b hf hg hn,aL,z9v]
theorem gw{f:aW}(hl:f.Nodes.length<=12):∀(m i:Nat),f.Nodes.length-i<m->i<=f.Nodes.length->∃b,W8 f m i=some b/\(b=true->∀x∈f.Nodes.drop i,x.Arcs.length<=12)
 |0,i,hm,_=>by omega
 |m+1,i,hm,hi=>by unfold W8;by_cases hlt:i<f.Nodes.length;obtain⟨x,hx,_⟩:=dM hlt;simp only[fO hlt,zC,c6,hx,aL,gI hlt (show f.Nodes.length<=9223372036854775807 by omega)];by_cases h:(x.Arcs.length:Int)>12;simp only[h,yC,zC];exact⟨false,rfl,fun h=>by cases h⟩;simp only[h,yB,zD];obtain⟨b,h1,h2⟩:=gw hl m (i+1) (by omega) (by omega);refine⟨b,h1,fun hb=>?_⟩;rw[aQ hx];intro y hy;rcases zI.1 hy with rfl |hy;omega;exact h2 hb y hy;simp only[fX hlt,zD,Pq,bG hlt];exact⟨true,rfl,fun _ x hx=>by cases hx⟩
theorem z6z(f:aW)(hn:20<=n):∃b,Bu n f=some b/\(b=true->cD f 12):=by
 unfold Bu;by_cases h:(f.Nodes.length:Int)>12;simp only[h,yC,zC];exact⟨false,rfl,fun h=>by cases h⟩;simp only[h,yB,zD];obtain⟨b,h1,h2⟩:=gw (f:=f) (by omega) n 0 (by omega) (by omega);rw[zV]at h1;rw[List.drop_zero]at h2;exact⟨b,h1,fun hb=>⟨by omega,h2 hb⟩⟩
theorem cD.up{k k':Nat}(h:cD f k)(hk:k<=k'):cD f k':=⟨by have:=h.nodes;omega,fun x hx=>by have:=h.arcs x hx;omega⟩
def cF(a b:aF):Int:=mC a.Feat b.Feat
theorem Ji:Cmp cF:=UW.pull aF.Feat
def rR(l:List aF):List aF:=srt (ltOf cF) l
theorem H3(l:List aF):(rR l).Perm l:=pd _ l
def jQ(l:List aF):Prop:=l.Pairwise (fun a b=>a.Feat≠b.Feat)
variable{l:List aF}
theorem jQ.perm{m:List aF}(h:l.Perm m)(hd:jQ l):jQ m:=(h.pairwise_iff (fun{a b} h=>Ne.symm h)).1 hd
theorem jQ.eq:∀{l:List aF},jQ l->∀x∈l,∀y∈l,x.Feat=y.Feat->x=y
 |[],_,x,hx,_,_,_=>by cases hx
 |a::l,h,x,hx,y,hy,e=>by obtain⟨h1,h2⟩:=List.pairwise_cons.1 h;rcases zI.1 hx with e1 |hx';rcases zI.1 hy with e2 |hy';rw[e1,e2];subst e1;exact absurd e (h1 y hy');rcases zI.1 hy with e2 |hy';subst e2;exact absurd e.symm (h1 x hx');exact jQ.eq h2 x hx' y hy' e
def j8(l:List aF):Prop:=l.Pairwise (fun a b=>a.Feat<b.Feat)
theorem Jj{a b:aF}:cF a b<=0↔a.Feat<=b.Feat:=by
 unfold cF mC;by_cases h1:a.Feat<b.Feat;simp[h1];omega;by_cases h2:b.Feat<a.Feat;simp[h1,h2];simp[h1,h2];omega
theorem UP(h:jQ l):j8 (rR l):=by
 have h1:=OD Ji l;have h2:jQ (rR l):=h.perm (H3 l).symm;refine(List.Pairwise.and h1 h2).imp fun{a b} h=>?_;have:=Jj.1 h.1;have:=h.2;omega
theorem Wl:∀{a b:List aF},j8 a->j8 b->a.Perm b->a=b
 |[],b,_,_,h=>(List.nil_perm.1 h).symm|x::a,[],_,_,h=>by have:=h.length_eq;simp at this
 |x::a,y::b,ha,hb,h=>by
  obtain⟨h1,h2⟩:=List.pairwise_cons.1 ha;obtain⟨h3,h4⟩:=List.pairwise_cons.1 hb;have hxy:x=y:=by rcases zI.1 (h.mem_iff.1 (List.mem_cons_self))with hx |hx;exact hx;rcases zI.1 (h.mem_iff.2 (List.mem_cons_self))with hy |hy;exact hy.symm;have h5:=h1 y hy;have h6:=h3 x hx;omega
  subst hxy;rw[Wl h2 h4 (h.cons_inv)]
theorem yr{m:List aF}(hd:jQ l)(h:m.Perm l)(hm:j8 m):rR l=m:=Wl (UP hd) hm ((H3 l).trans h.symm)
theorem j8.dis(h:j8 l):jQ l:=h.imp fun{a b} h=>by omega
structure jh(x:aI)(N:Nat):Prop where
 ty:0<=x.Typex
 dis:jQ x.Arcs
 arc:∀a∈x.Arcs,0<=a.Feat/\0<=a.To/\a.To<N
def tK(f:aW):Prop:=∀x∈f.Nodes,jh x f.Nodes.length
def nd(f:aW)(v:Int):aI:=(f.Nodes[v.toNat]?).getD (aI.mk 0 [])
def pM(f:aW)(v:Int):Prop:=0<=v/\v<f.Nodes.length
variable{f:aW}
variable{v:Int}
theorem U3(h:pM f v):a8 f.Nodes v=some (nd f v)/\nd f v∈f.Nodes:=by
 have hv:v.toNat<f.Nodes.length:=by have:=h.1;have:=h.2;omega
 have h1:0<=v/\v<(f.Nodes.length:Int):=h;simp[a8,h1,nd,hv]
def kE(f:aW)(v:Int):List aF:=rR (nd f v).Arcs
theorem BP{a:aF}:a∈kE f v↔a∈(nd f v).Arcs:=(H3 _).mem_iff
def jT(g:List Int->Int->List Int)(o:List Int)(a:aF):List Int:=if a.To∈o then o else g o a.To
def dfs(f:aW):Nat->List Int->Int->List Int
 |0,o,_=>o|k+1,o,v=>(kE f v).foldl (jT (dfs f k)) (o++[v])
structure Seen(f:aW)(o:List Int):Prop where
 nd:o.Nodup
 ing:∀v∈o,pM f v
theorem Of:∀(N:Nat){o:List Int},o.Nodup->(∀v∈o,0<=v/\v<N)->o.length<=N
 |0,o,_,h=>by rcases o with _|⟨v,o⟩;simp;have:=h v (by simp);omega
 |N+1,o,hn,h=>by
  have h1:=Of N (o:=o.filter (fun v=>v != (N:Int))) (hn.filter _) fun v hv=>by rw[List.mem_filter]at hv;have:=h v hv.1;have h2:=hv.2;simp at h2;omega
  have h2:o.length<=(o.filter (fun v=>v != (N:Int))).length+1:=by
   clear h1 h;induction o with
   |nil=>simp|cons x o ih=>
    obtain⟨h3,h4⟩:=List.nodup_cons.1 hn;have:=ih h4;by_cases e:x=N;subst e;have:o.filter (fun v=>v != (N:Int))=o:=List.filter_eq_self.2 fun v hv=>by simp only[bne_iff_ne,ne_eq];intro e;subst e;exact h3 hv
    simp[this];have e2:(x != (N:Int))=true:=by simpa using e
    rw[List.filter_cons_of_pos (by simpa using e)];simp only[zO];omega
  omega
variable{o:List Int}
theorem Seen.len(h:Seen f o):o.length<=f.Nodes.length:=Of _ h.nd h.ing
theorem Seen.snoc(h:Seen f o)(hv:pM f v)(hn:v ∉ o):Seen f (o++[v]):=⟨by
 rw[List.nodup_append];refine⟨h.nd,by simp,?_⟩;intro a ha b hb;simp at hb;subst hb;intro e;subst e;exact hn ha,fun u hu=>by
 rcases yD.1 hu with hu |hu;exact h.ing u hu;simp at hu;subst hu;exact hv⟩
theorem Lp{f:aW}(hg:tK f):∀(k:Nat)(o:List Int)(v:Int),Seen f o->pM f v->v ∉ o->f.Nodes.length-o.length<=k->
  Seen f (dfs f k o v)/\(∃t,dfs f k o v=o++v::t)/\(∀u∈dfs f k o v,u ∉ o->∀a∈(nd f u).Arcs,a.To∈dfs f k o v)/\(∀k',f.Nodes.length-o.length<=k'->dfs f k' o v=dfs f k o v)
 |0,o,v,hs,hv,hn,hk=>by have h1:=(hs.snoc hv hn).len;simp only[zU,zO,zS]at h1;omega
 |k+1,o,v,hs,hv,hn,hk=>by
  have sG:=hs.snoc hv hn;have xW:=sG.len;simp only[zU,zO,zS]at xW;have key:∀(l:List aF),(∀a∈l,pM f a.To)->∀(p:List Int),Seen f p->(∃t,p=o++v::t)->(∀u∈p,u ∉ o->u≠v->∀a∈(nd f u).Arcs,a.To∈p)->
    Seen f (l.foldl (jT (dfs f k)) p)/\(∃t,l.foldl (jT (dfs f k)) p=p++t)/\(∀u∈l.foldl (jT (dfs f k)) p,u ∉ o->u≠v->∀a∈(nd f u).Arcs,a.To∈l.foldl (jT (dfs f k)) p)/\(∀a∈l,a.To∈l.foldl (jT (dfs f k)) p)/\
     (∀k',f.Nodes.length-(o.length+1)<=k'->l.foldl (jT (dfs f k')) p=l.foldl (jT (dfs f k)) p):=by
   intro l;induction l with
   |nil=>intro _ p hp hpre hcl;exact⟨hp,⟨[],by simp⟩,hcl,⟨fun a ha=>(List.not_mem_nil ha).elim,fun _ _=>rfl⟩⟩|cons a l ih=>
    intro hl p hp hpre hcl;have hla:=hl a (by simp);have hll:=fun b hb=>hl b (List.mem_cons_of_mem a hb);simp only[List.foldl_cons];by_cases hm:a.To∈p;have e:∀k',jT (dfs f k') p a=p:=fun k'=>by simp[jT,hm]
    simp only[e];obtain⟨g1,⟨t,g2⟩,g3,g4,g5⟩:=ih hll p hp hpre hcl;refine⟨g1,⟨t,g2⟩,g3,fun b hb=>?_,g5⟩;rcases zI.1 hb with rfl |hb;rw[g2];exact List.mem_append_left _ hm;exact g4 b hb;have e:∀k',jT (dfs f k') p a=dfs f k' p a.To:=fun k'=>by simp[jT,hm]
    obtain⟨t0,hpre⟩:=hpre;have hpl:o.length+1<=p.length:=by rw[hpre];simp
    obtain⟨d1,⟨t1,d2⟩,d3,d4⟩:=Lp hg k p a.To hp hla hm (by omega);have hsub:∀u∈p,u∈dfs f k p a.To:=fun u hu=>by rw[d2];exact List.mem_append_left _ hu
    obtain⟨g1,⟨t,g2⟩,g3,g4,g5⟩:=ih hll (dfs f k p a.To) d1 ⟨t0++a.To::t1,by rw[d2,hpre];simp⟩ (fun u hu h1 h2 b hb=>by by_cases hup:u∈p;exact hsub _ (hcl u hup h1 h2 b hb);exact d3 u hu hup b hb);rw[e k];refine⟨g1,⟨a.To::t1++t,by rw[g2,d2];simp⟩,g3,fun b hb=>?_,fun k' hk'=>?_⟩;rcases zI.1 hb with rfl |hb;rw[g2,d2];simp;exact g4 b hb;rw[e k',d4 k' (by omega)];exact g5 k' hk'
  have hla:∀a∈kE f v,pM f a.To:=fun a ha=>by have h1:=(hg _ (U3 hv).2).arc a (BP.1 ha);exact⟨h1.2.1,h1.2.2⟩
  obtain⟨g1,⟨t,g2⟩,g3,g4,g5⟩:=key (kE f v) hla (o++[v]) sG ⟨[],rfl⟩ (fun u hu h1 h2=>by rcases yD.1 hu with hu |hu;exact absurd hu h1;simp at hu;exact absurd hu h2);refine⟨g1,⟨t,by show(kE f v).foldl _ _=_;rw[g2];simp⟩,fun u hu h1 a ha=>?_,fun k' hk'=>?_⟩;by_cases e:u=v;subst e;exact g4 a (BP.2 ha);exact g3 u hu h1 e a ha;cases k' with
  |zero=>omega|succ k'=>exact g5 k' (by omega)
def qH(f:aW)(r:Int):List Int:=dfs f f.Nodes.length [] r
theorem Seen.nil(f:aW):Seen f []:=⟨List.nodup_nil,fun v hv=>by cases hv⟩
structure MW(f:aW)(r:Int)(o:List Int):Prop where
 seen:Seen f o
 head:∃t,o=r::t
 clo:∀u∈o,∀a∈(nd f u).Arcs,a.To∈o
theorem UT(hg:tK f){r:Int}(hr:pM f r):MW f r (qH f r)/\∀k,f.Nodes.length<=k->dfs f k [] r=qH f r:=by
 obtain⟨h1,⟨t,h2⟩,h3,h4⟩:=Lp hg f.Nodes.length [] r (Seen.nil f) hr (by simp) (by simp);exact⟨⟨h1,⟨t,by have h5:=h2;rw[List.nil_append]at h5;exact h5⟩,fun u hu=>h3 u hu (by simp)⟩,fun k hk=>h4 k (by simpa using hk)⟩
def oJ(o:List Int)(a:aF):aF:=⟨a.Feat,(o.idxOf a.To:Int)⟩
def oK(f:aW)(o:List Int)(v:Int):aI:=⟨(nd f v).Typex,(kE f v).map (oJ o)⟩
def mG(f:aW)(r:Int):aW:=⟨(qH f r).map (oK f (qH f r))⟩
structure Rep(w:i8 Int Int)(o:List Int):Prop where
 inv:MInv w
 get:∀x,qJ x w.es=if x∈o then some (o.idxOf x:Int)else none
theorem Jk(a b:Int):(a==b)=true↔a=b:=by simp
theorem Rep.nil:Rep (yK:i8 Int Int) []:=⟨⟨by simp[yK],by simp[yK],by simp[yK]⟩,fun x=>by simp[yK,qJ]⟩
theorem Rep.snoc{w:i8 Int Int}(h:Rep w o)(hv:v ∉ o):Rep (vT (fun a b=>a==b) w v (o.length:Int)) (o++[v]):=by
 obtain⟨h1,h2⟩:=NF (eq:=fun a b:Int=>a==b) Jk h.inv v (o.length:Int);refine⟨h1,fun x=>?_⟩;rw[h2,h.get];by_cases e:x=v;subst e;simp[List.idxOf_append,hv];by_cases hx:x∈o;simp[e,hx,List.idxOf_append];simp[e,hx]
theorem Rep.mget{w:i8 Int Int}(h:Rep w o)(x:Int):AO (fun a b=>a==b) w x=if x∈o then some (o.idxOf x:Int)else none:=by
 rw[z73 (eq:=fun a b:Int=>a==b) Jk,h.get]
theorem OE{α:Type}(a b:List α)(x y:α):(a++x::b).set a.length y=a++y::b:=by simp
def wV(N:Nat)(seen:List Int):List aF->Int
 |[]=>0|a::l=>if a.Feat<0\/a.To<0\/a.To>=(N:Int)then 2 else if a.Feat∈seen then 4 else wV N (a.Feat::seen) l
def y5(N:Nat)(x:aI):Int:=if x.Typex<0 then 2 else wV N [] x.Arcs
theorem tw{N:Nat}:∀{l:List aF}{seen:List Int},wV N seen l=0↔(∀a∈l,0<=a.Feat/\0<=a.To/\a.To<N)/\jQ l/\∀a∈l,a.Feat ∉ seen
 |[],seen=>by simp[wV,jQ]
 |a::l,seen=>by
  simp only[wV];by_cases h1:a.Feat<0\/a.To<0\/a.To>=(N:Int);simp only[h1,if_true];refine⟨fun h=>absurd h (by decide),fun h=>?_⟩;have:=h.1 a (by simp);omega;by_cases h2:a.Feat∈seen;simp only[h1,h2,if_true,if_false];exact⟨fun h=>absurd h (by decide),fun h=>absurd h2 (h.2.2 a (by simp))⟩;simp only[h1,h2,if_false];rw[tw (l:=l)];unfold jQ;rw[List.pairwise_cons];constructor;rintro⟨g1,g2,g3⟩;refine⟨fun b hb=>?_,⟨fun b hb=>?_,g2⟩,fun b hb=>?_⟩;rcases zI.1 hb with rfl |hb;omega;exact g1 b hb;have:=g3 b hb;simp only[zI,not_or]at this;exact fun e=>this.1 e.symm
  rcases zI.1 hb with rfl |hb;exact h2;have:=g3 b hb;simp only[zI,not_or]at this;exact this.2;rintro⟨g1,⟨g2,g3⟩,g4⟩;refine⟨fun b hb=>g1 b (by simp[hb]),g3,fun b hb=>?_⟩;simp only[zI,not_or];exact⟨fun e=>g2 b hb e.symm,g4 b (by simp[hb])⟩
theorem tp{N:Nat}{x:aI}:y5 N x=0↔jh x N:=by
 unfold y5;by_cases h:x.Typex<0;simp only[h,if_true];exact⟨fun h=>absurd h (by decide),fun h'=>by have:=h'.ty;omega⟩;simp only[h,if_false];rw[tw];exact⟨fun⟨h1,h2,_⟩=>⟨by omega,h2,h1⟩,fun h=>⟨h.arc,h.dis,fun _ _=>by simp⟩⟩
def IS(N:Nat):List aI->Int
 |[]=>0|x::l=>if y5 N x≠0 then y5 N x else IS N l
theorem tq{N:Nat}:∀{l:List aI},IS N l=0↔∀x∈l,jh x N
 |[]=>by simp[IS]
 |x::l=>by simp only[IS];by_cases h:y5 N x=0;simp only[h,ne_eq,not_true,if_false,tq (l:=l),zI,forall_eq_or_imp,tp.1 h,true_and];simp only[h,ne_eq,not_false_eq_true,if_true,zI,forall_eq_or_imp,false_iff,not_and];exact fun h2=>absurd (tp.2 h2) h
def AQ(f:aW):Int:=if f.Nodes.length=0 then 1 else if f.Nodes.length>4096 then 7 else IS f.Nodes.length f.Nodes
variable{f:aW}
theorem tu:AQ f=0↔f.Nodes.length≠0/\f.Nodes.length<=4096/\tK f:=by
 unfold AQ;by_cases h0:f.Nodes.length=0;simp[h0];by_cases h1:f.Nodes.length>4096;simp[h0,h1];intro _;omega;simp only[h0,h1,if_false,tq];exact⟨fun h=>⟨by simpa using h0,by omega,h⟩,fun h=>h.2.2⟩
structure o7(f g:aW)(π:Int->Int)(S:Int->Prop):Prop where
 clo:∀v,S v->∀a∈kE f v,S a.To
 inj:∀u v,S u->S v->π u=π v->u=v
 ty:∀v,S v->(nd g (π v)).Typex=(nd f v).Typex
 arc:∀v,S v->kE g (π v)=(kE f v).map fun a=>⟨a.Feat,π a.To⟩
theorem o7.dfs{f g:aW}{π:Int->Int}{S:Int->Prop}(h:o7 f g π S):∀(k:Nat)(o:List Int)(v:Int),S v->(∀u∈o,S u)->dfs g k (o.map π) (π v)=(Go.Proofs.dfs f k o v).map π/\∀u∈Go.Proofs.dfs f k o v,S u
 |0,o,v,hv,ho=>⟨rfl,ho⟩|k+1,o,v,hv,ho=>by
  have key:∀(l:List aF)(p:List Int),(∀a∈l,S a.To)->(∀u∈p,S u)->
    (l.map fun a=>(⟨a.Feat,π a.To⟩:aF)).foldl (jT (Go.Proofs.dfs g k)) (p.map π)=(l.foldl (jT (Go.Proofs.dfs f k)) p).map π/\∀u∈l.foldl (jT (Go.Proofs.dfs f k)) p,S u:=by
   intro l;induction l with
   |nil=>intro p _ hp;exact⟨rfl,hp⟩|cons a l ih=>
    intro p hl hp;have hla:=hl a (by simp);simp only[zQ,List.foldl_cons];have hm:π a.To∈p.map π↔a.To∈p:=by rw[List.mem_map];exact⟨fun⟨u,hu,e⟩=>by rw[<-h.inj u a.To (hp u hu) hla e];exact hu,fun hu=>⟨_,hu,rfl⟩⟩
    by_cases hin:a.To∈p;have e1:jT (Go.Proofs.dfs g k) (p.map π) (⟨a.Feat,π a.To⟩:aF)=p.map π:=by simp only[jT,hm.2 hin,if_true]
    have e2:jT (Go.Proofs.dfs f k) p a=p:=by simp only[jT,hin,if_true]
    rw[e1,e2];exact ih p (fun b hb=>hl b (List.mem_cons_of_mem _ hb)) hp;have e1:jT (Go.Proofs.dfs g k) (p.map π) (⟨a.Feat,π a.To⟩:aF)=Go.Proofs.dfs g k (p.map π) (π a.To):=by simp only[jT,mt hm.1 hin,if_false]
    have e2:jT (Go.Proofs.dfs f k) p a=Go.Proofs.dfs f k p a.To:=by simp only[jT,hin,if_false]
    obtain⟨g1,g2⟩:=o7.dfs h k p a.To hla hp;rw[e1,e2,g1];exact ih _ (fun b hb=>hl b (List.mem_cons_of_mem _ hb)) g2
  have ho1:∀u∈o++[v],S u:=fun u hu=>by rcases yD.1 hu with hu |hu;exact ho u hu;simp at hu;subst hu;exact hv
  have:=key (kE f v) (o++[v]) (h.clo v hv) ho1;refine⟨?_,this.2⟩;show(kE g (π v)).foldl _ (o.map π++[π v])=_;have e:=this.1;simp only[List.map_append,zQ,List.map_nil]at e;rw[h.arc v hv];exact e
theorem tf{π:Int->Int}:∀{o:List Int}{x:Int},(∀u∈o,π u=π x->u=x)->(o.map π).idxOf (π x)=o.idxOf x
 |[],x,_=>rfl|u::o,x,h=>by
  simp only[zQ,List.idxOf_cons];have ih:=tf (o:=o) (x:=x) fun w hw=>h w (List.mem_cons_of_mem _ hw);by_cases e:u=x;subst e;simp;have e2:¬ π u=π x:=fun h2=>e (h u (by simp) h2);have e3:(u==x)=false:=by simpa using e
  have e4:(π u==π x)=false:=by simpa using e2
  simp only[e3,e4,zD,ih]
variable{r:Int}
theorem o7.canon{g:aW}{π:Int->Int}{S:Int->Prop}(h:o7 f g π S)(hf:tK f)(hg:tK g)(hr:pM f r)(hS:S r)(hr':pM g (π r)):qH g (π r)=(qH f r).map π/\mG g (π r)=mG f r:=by
 obtain⟨o1,s1⟩:=UT hf hr;obtain⟨o2,s2⟩:=UT hg hr';have h1:=h.dfs (f.Nodes.length+g.Nodes.length) [] r hS (by simp);rw[List.map_nil,s1 _ (by omega),s2 _ (by omega)]at h1;refine⟨h1.1,?_⟩;unfold mG;rw[h1.1,List.map_map];congr 1;refine List.map_congr_left fun v hv=>?_;have hSv:=h1.2 v hv;simp only[Function.comp,oK,h.ty v hSv,h.arc v hSv,List.map_map];congr 1;refine List.map_congr_left fun a ha=>?_;have hSa:=h.clo v hSv a ha;simp only[Function.comp,oJ];rw[tf fun u hu e=>h.inj u a.To (h1.2 u hu) hSa e]
theorem yt{l:List aF}(h:j8 l):rR l=l:=yr h.dis (List.Perm.refl _) h
theorem Ya{o:List Int}{v:Int}(h:v∈o):o[o.idxOf v]? = some v:=by
 have h1:=List.idxOf_lt_length_of_mem h;rw[List.getElem?_eq_getElem h1,List.getElem_idxOf]
structure Ka(f:aW)(r:Int)(c:aW):Prop where
 len:c.Nodes.length=(qH f r).length
 le:c.Nodes.length<=f.Nodes.length
 pos:0<c.Nodes.length
 ok:tK c
 at_:∀v∈qH f r,nd c ((qH f r).idxOf v:Int)=oK f (qH f r) v
 up:∀x∈c.Nodes,j8 x.Arcs
 sim:o7 f c (fun v=>((qH f r).idxOf v:Int)) (fun v=>v∈qH f r)
theorem NG{o:List Int}{l:List aF}(h:j8 l):j8 (l.map (oJ o)):=by
 unfold j8 at*;rw[List.pairwise_map];exact h
theorem uw(hf:tK f)(hr:pM f r):Ka f r (mG f r):=by
 obtain⟨o1,_⟩:=UT hf hr;have hat:∀v∈qH f r,nd (mG f r) ((qH f r).idxOf v:Int)=oK f (qH f r) v:=fun v hv=>by simp only[nd,mG,zZ,List.getElem?_map,Ya hv,zM,Option.getD_some]
 have hin:∀v∈qH f r,pM f v:=o1.seen.ing;have hup:∀v∈qH f r,j8 (oK f (qH f r) v).Arcs:=fun v hv=>NG (UP (hf _ (U3 (hin v hv)).2).dis);refine⟨by simp[mG],by simp only[mG,yA];exact o1.seen.len,?_,?_,hat,?_,?_⟩;obtain⟨t,ht⟩:=o1.head;simp[mG,ht];intro x hx;simp only[mG,List.mem_map]at hx;obtain⟨v,hv,rfl⟩:=hx;have hn:=hf _ (U3 (hin v hv)).2;refine⟨hn.ty,(hup v hv).dis,fun a ha=>?_⟩;simp only[oK,List.mem_map]at ha;obtain⟨b,hb,rfl⟩:=ha;have hb':=BP.1 hb;refine⟨(hn.arc b hb').1,by simp only[oJ];omega,?_⟩;have:=List.idxOf_lt_length_of_mem (o1.clo v hv b hb');simp only[oJ,mG,yA];omega;intro x hx;simp only[mG,List.mem_map]at hx;obtain⟨v,hv,rfl⟩:=hx;exact hup v hv;refine⟨fun v hv a ha=>o1.clo v hv a (BP.1 ha),fun u v hu hv e=>?_,fun v hv=>?_,fun v hv=>?_⟩;have h1:=Ya hu;have h2:=Ya hv;have e':(qH f r).idxOf u=(qH f r).idxOf v:=Int.ofNat.inj e;rw[e',h2]at h1;exact(Option.some.inj h1).symm;simp only[hat v hv,oK];simp only[kE,hat v hv];rw[yt (hup v hv)];rfl
theorem cD.canon{k:Nat}(hs:cD f k)(hf:tK f)(hr:pM f r):cD (mG f r) k:=by
 have hc:=uw hf hr;obtain⟨o1,_⟩:=UT hf hr;refine⟨Nat.le_trans hc.le hs.nodes,fun x hx=>?_⟩;simp only[mG,List.mem_map]at hx;obtain⟨v,hv,rfl⟩:=hx;simp only[oK,yA,kE];rw[(H3 _).length_eq];exact hs.arcs _ (U3 (o1.seen.ing v hv)).2
theorem Z'{N:Nat}:∀{l:List aF}{s s':List Int},(∀x,x∈s↔x∈s')->wV N s l=wV N s' l
 |[],s,s',_=>rfl|a::l,s,s',h=>by simp only[wV];rw[Z' (l:=l) (s:=a.Feat::s) (s':=a.Feat::s') fun x=>by simp only[zI,h x]];by_cases h1:a.Feat∈s;simp only[h1,(h _).1 h1,if_true];simp only[h1,mt (h _).2 h1,if_false]
theorem sa{l:List aF}(hl:l.length<=1000000){i:Nat}{x:aF}(hx:l[i]? = some x)(hi:i<l.length){rc:Int->Option Int}:∀(m k:Nat),i-k<m->k<=i->
  W0 l i rc m k=if x.Feat∈((l.take i).drop k).map aF.Feat then some 4 else rc (IntKind.i64.wrap ((i:Int)+1))
 |0,k,hm,_=>by omega
 |m+1,k,hm,hk=>by
  unfold W0;by_cases hlt:k<i;obtain⟨y,hy,_⟩:=dM (l:=l) (i:=k) (by omega);have hy':(l.take i)[k]? = some y:=by rw[List.getElem?_take_of_lt hlt];exact hy
  have hd:decide ((k:Int)<(i:Int))=true:=fO hlt;have hw:IntKind.i64.wrap ((k:Int)+1)=((k+1:Nat):Int):=yS (by omega) (by omega);simp only[hd,zC,c6,hy,hx,aL,aQ hy',zQ,zI,hw];by_cases e:y.Feat=x.Feat;simp[e];have e2:(y.Feat==x.Feat)=false:=by simpa using e
  have e3:¬ x.Feat=y.Feat:=fun h=>e h.symm;simp only[e2,zD,e3,false_or];exact sa hl hx hi m (k+1) (by omega) (by omega);have hd:decide ((k:Int)<(i:Int))=false:=fX hlt;have:(l.take i).drop k=[]:=List.drop_eq_nil_of_le (by simp;omega);simp only[hd,zD,Ow,this,List.map_nil,List.not_mem_nil,if_false]
theorem sb{l:List aF}{N n:Nat}(hl:l.length<=1000000)(hn:l.length<n):∀(m i:Nat),l.length-i<m->i<=l.length->HE l N n m i=some (wV N ((l.take i).map aF.Feat) (l.drop i))
 |0,i,hm,_=>by omega
 |m+1,i,hm,hi=>by
  unfold HE;by_cases hlt:i<l.length;obtain⟨a,ha,_⟩:=dM hlt;have h2:=sa hl ha hlt (rc:=HE l N n m) n 0 (by omega) (by omega);rw[zV,List.drop_zero]at h2;simp only[fO hlt,zC,c6,ha,aL,aQ ha,wV];by_cases h1:a.Feat<0;simp[h1,aL];by_cases h3:a.To<0;simp[h1,h3,aL];by_cases h4:a.To>=(N:Int);simp[h1,h3,h4,aL];simp only[h1,h3,h4,yB,zD,aL,or_self,if_false,h2,gI hlt (show l.length<=9223372036854775807 by omega)];rw[sb hl hn m (i+1) (by omega) (by omega),gM ha];by_cases h5:a.Feat∈(l.take i).map aF.Feat;simp only[h5,if_true];simp only[h5,if_false];congr 1;exact Z' fun x=>by simp[or_comm]
  simp only[fX hlt,zD,Ox,bG hlt,wV]
theorem uo{f:aW}{k:Nat}(hf:cD f k)(hk:k<=1000000){n:Nat}(hn:k<n):∀(m i:Nat),f.Nodes.length-i<m->i<=f.Nodes.length->VZ f n m i=some (IS f.Nodes.length (f.Nodes.drop i))
 |0,i,hm,_=>by omega
 |m+1,i,hm,hi=>by
  have hnl:=hf.nodes;unfold VZ;by_cases hlt:i<f.Nodes.length;obtain⟨x,hx,hxm⟩:=dM hlt;have hal:=hf.arcs x hxm;have h2:=sb (l:=x.Arcs) (N:=f.Nodes.length) (n:=n) (by omega) (by omega) n 0 (by omega) (by omega);rw[zV,List.drop_zero,List.take_zero,List.map_nil]at h2;simp only[fO hlt,zC,c6,hx,aL,aQ hx,IS,y5,Ni,h2,gI hlt (show f.Nodes.length<=9223372036854775807 by omega)];by_cases h1:x.Typex<0;simp[h1];simp only[h1,yB,zD,if_false];by_cases h3:wV f.Nodes.length [] x.Arcs=0;simp only[h3,bne_self_eq_false,zD,ne_eq,not_true,if_false];exact uo hf hk hn m (i+1) (by omega) (by omega);have hb:(wV f.Nodes.length [] x.Arcs != 0)=true:=by simpa using h3
  simp only[hb,zC,h3,ne_eq,not_false_eq_true,if_true];simp only[fX hlt,zD,Ov,bG hlt,IS]
variable{f:aW}
variable{k:Nat}
variable{n:Nat}
theorem za9(hf:cD f k)(hk:k<=1000000)(hn:k<n):Bh n f=some (AQ f):=by
 have hnl:=hf.nodes;unfold Bh AQ;by_cases h0:f.Nodes.length=0;simp[h0];have e0:((f.Nodes.length:Int)==0)=false:=by simp;intro h;simp[h]at h0
 simp only[e0,zD,h0,if_false];by_cases h1:f.Nodes.length>4096;have:(f.Nodes.length:Int)>4096:=by omega
 simp[h1,this];have:¬ (f.Nodes.length:Int)>4096:=by omega
 simp only[h1,this,yB,zD,if_false];have h:=uo hf hk hn n 0 (by omega) (by omega);rw[zV,List.drop_zero]at h;exact h
theorem ky{l:List aF}{i:Nat}{x:aF}(hx:l[i]? = some x){out:List aF}(hol:out.length<=1000000)(hup:j8 out){rc:Int->List aF->Option (List aF)}:∀(m p:Nat),p<m->p<=out.length->(∀a∈out.drop p,x.Feat<a.Feat)->
  ∃q,q<=out.length/\WH l i out rc m p=WI l i out rc (q:Int)/\(∀a∈out.drop q,x.Feat<a.Feat)/\(∀a∈out.take q,a.Feat<=x.Feat)
 |0,p,hm,_,_=>by omega
 |m+1,p,hm,hp,hd=>by
  unfold WH;cases p with
  |zero=>
   have:¬ ((0:Nat):Int)>0:=by omega
   simp only[this,yB,zD,aL];exact⟨0,by omega,rfl,hd,by simp⟩
  |succ p=>
   have h0:((p+1:Nat):Int)>0:=by omega
   have hw:IntKind.i64.wrap (((p+1:Nat):Int)-1)=(p:Int):=yS (by omega) (by omega);obtain⟨y,hy,_⟩:=dM (l:=out) (i:=p) (by omega);simp only[h0,yC,zC,hw,c6,hy,hx,aL];by_cases e:y.Feat>x.Feat;simp only[e,yC,zC];refine ky hx hol hup m p (by omega) (by omega) fun a ha=>?_;rw[aQ hy]at ha;rcases zI.1 ha with rfl |ha
   omega;exact hd a ha;simp only[e,yB,zD];refine⟨p+1,hp,rfl,hd,fun a ha=>?_⟩;obtain⟨j,hj,rfl⟩:=List.mem_iff_getElem.1 ha;simp only[List.length_take]at hj;rw[List.getElem_take];obtain⟨hp',ey⟩:=zG.1 hy;by_cases ej:j=p;subst ej;rw[ey];omega;have:=List.pairwise_iff_getElem.1 hup j p (by omega) hp' (by omega);rw[ey]at this;omega
theorem RG{l:List aF}{i:Nat}{x:aF}(hx:l[i]? = some x){out:List aF}(hol:out.length<=1000000){rc:Int->List aF->Option (List aF)}{q:Nat}(hq:q<=out.length):
  WI l i out rc (q:Int)=rc (IntKind.i64.wrap ((i:Int)+1)) (out.take q++x::out.drop q):=by
 have e1:(out.drop 0).take ((q:Int)).toNat=out.take q:=by rw[List.drop_zero,zZ]
 have e2:(out.drop (0+((q:Int)).toNat)).take (out.length-((q:Int)).toNat)=out.drop q:=by rw[zZ,Nat.zero_add,zW (by simp)]
 have l1:(out.take q).length=q:=by simp;omega
 have n1:(0:Int)<=(q:Int)/\(q:Int)<=((out.length:Nat):Int):=by omega
 have n2:0+((q:Int)).toNat<=out.length:=by rw[zZ];omega
 have n3:(out.take q).length*16<=140737488355328/\(out.take q).length<=140737488355328:=by omega
 have n4:((out.take q).length+1)*16<=140737488355328/\(out.take q).length+1<=140737488355328:=by omega
 have n5:(0+((q:Int)).toNat)+(out.length-((q:Int)).toNat)<=out.length:=by rw[zZ];omega
 have n6:((out.take q++[x]).length+(out.drop q).length)*16<=140737488355328/\(out.take q++[x]).length+(out.drop q).length<=140737488355328:=by simp;omega
 unfold WI;simp only[aB,e1,e2,c6,hx,aL];rw[if_pos n1,if_pos n2,if_pos n3,if_pos n4,if_pos n1,if_pos n5,if_pos n6];simp
theorem kz{l:List aF}(hl:l.length<=1000000)(hd:jQ l){n:Nat}(hn:l.length<n):∀(m i:Nat),l.length-i<m->i<=l.length->HT l n m i (rR (l.take i))=some (rR l)
 |0,i,hm,_=>by omega
 |m+1,i,hm,hi=>by
  have hdi:jQ (l.take i):=hd.sublist (List.take_sublist i l);have hol:(rR (l.take i)).length=i:=by rw[(H3 _).length_eq];simp;omega
  unfold HT;by_cases hlt:i<l.length;obtain⟨x,hx,_⟩:=dM hlt;obtain⟨q,q1,q2,q3,q4⟩:=ky hx (out:=rR (l.take i)) (by omega) (UP hdi) (rc:=HT l n m) n (rR (l.take i)).length (by omega) (zF _) (by simp);simp only[fO hlt,zC,q2,RG hx (show(rR (l.take i)).length<=1000000 by omega) q1,gI hlt (show l.length<=9223372036854775807 by omega)];have RW:jQ (l.take (i+1)):=hd.sublist (List.take_sublist _ l);have hperm:((rR (l.take i)).take q++x::(rR (l.take i)).drop q).Perm (l.take (i+1)):=by rw[gM hx];refine List.perm_middle.trans ?_;rw[List.take_append_drop];exact((H3 (l.take i)).cons x).trans (List.perm_append_comm (l₁:=[x]) (l₂:=l.take i))
  have hne:∀a∈rR (l.take i),a.Feat≠x.Feat:=fun a ha e=>by rw[gM hx]at RW;have:=(List.pairwise_append.1 RW).2.2 a ((H3 _).mem_iff.1 ha) x (by simp);exact this e
  have hup:j8 ((rR (l.take i)).take q++x::(rR (l.take i)).drop q):=by have h0:=UP hdi;unfold j8 at*;rw[List.pairwise_append];refine⟨h0.sublist (List.take_sublist _ _),List.pairwise_cons.2 ⟨q3,h0.sublist (List.drop_sublist _ _)⟩,fun a ha b hb=>?_⟩;have h1:=q4 a ha;have h2:=hne a (List.mem_of_mem_take ha);rcases zI.1 hb with rfl |hb;omega;have:=q3 b hb;omega
  rw[<-yr RW hperm hup];exact kz hl hd hn m (i+1) (by omega) (by omega);simp only[fX hlt,zD,Qv];rw[zW (by omega)]
theorem qn6{l:List aF}(hl:l.length<=1000000)(hd:jQ l)(hn:l.length<n):Cm n l=some (rR l):=by
 have h:=kz hl hd hn n 0 (by omega) (by omega);rw[zV,List.take_zero]at h;exact h
structure E2(f:aW)(w:List Int)(o:List Int):Prop where
 len:w.length=f.Nodes.length
 get:∀x,pM f x->a8 w x=some (if x∈o then(o.idxOf x:Int)else -1)
theorem E2.snoc{w o:List Int}(h:E2 f w o){v:Int}(hv:pM f v)(hn:v ∉ o):E2 f (w.set (0+v.toNat) (o.length:Int)) (o++[v]):=by
 refine⟨by simp[h.len],fun x hx=>?_⟩;have hvl:v.toNat<w.length:=by rw[h.len];have:=hv.1;have:=hv.2;omega
 have hc:0<=x/\x<((w.set (0+v.toNat) (o.length:Int)).length:Int):=by rw[List.length_set,h.len];exact hx
 have h2:=h.get x hx;have RY:0<=x/\x<(w.length:Int):=by rw[h.len];exact hx
 rw[a8,if_pos RY]at h2;rw[a8,if_pos hc,Nat.zero_add];by_cases e:x=v;subst e;simp[List.idxOf_append,hn,hvl];rw[List.getElem?_set_ne (by have:=hx.1;have:=hv.1;omega),h2];by_cases hxo:x∈o;simp[hxo,List.idxOf_append];simp[hxo,e]
theorem ct{f:aW}{k:Nat}(hg:tK f)(hf:cD f k)(hk:k<=1000000):∀(n:Nat)(o:List Int)(v:Int)(w:List Int),Seen f o->pM f v->v ∉ o->E2 f w o->f.Nodes.length-o.length+k+2<=n->
  ∃w',HX n v f.Nodes w o=some (w',dfs f n o v)/\E2 f w' (dfs f n o v)
 |0,o,v,w,hs,hv,hn,hw,hfu=>by omega
 |n+1,o,v,w,hs,hv,hn,hw,hfu=>by
  have sG:=hs.snoc hv hn;have xW:=sG.len;simp only[zU,zO,zS]at xW;obtain⟨hx,hxm⟩:=U3 hv;have hno:=hg _ hxm;have hal:=hf.arcs _ hxm;have hnl:=hf.nodes;have hsl:(kE f v).length=(nd f v).Arcs.length:=(H3 _).length_eq;have key:∀(m i:Nat)(p:List Int)(w:List Int),(kE f v).length-i<m->i<=(kE f v).length->Seen f p->o.length+1<=p.length->E2 f w p->
    ∃w',KV f.Nodes (kE f v) (HX n) m i w p=some (w',((kE f v).drop i).foldl (jT (dfs f n)) p)/\E2 f w' (((kE f v).drop i).foldl (jT (dfs f n)) p):=by
   intro m;induction m with
   |zero=>intro i p w hm;omega|succ m ih=>
    intro i p w hm hi hp hpl hw;unfold KV;by_cases hlt:i<(kE f v).length;obtain⟨a,ha,ham⟩:=dM hlt;have h1:=hno.arc a (BP.1 ham);have hia:pM f a.To:=⟨h1.2.1,h1.2.2⟩;have XA:IntKind.i64.wrap ((i:Int)+1)=((i+1:Nat):Int):=gI hlt (by omega);simp only[fO hlt,zC,c6,ha,aL,hw.get _ hia,aQ ha,List.foldl_cons];by_cases v6:a.To∈p;have hneg:¬ ((p.idxOf a.To:Nat):Int)<0:=by omega
    simp only[v6,if_true,hneg,yB,zD,X3,XA,jT];exact ih (i+1) p w (by omega) (by omega) hp hpl hw;have hneg:(-1:Int)<0:=by decide
    simp only[v6,if_false,hneg,yC,zC,X3,XA,jT];obtain⟨w1,g1,g2⟩:=ct hg hf hk n p a.To w hp hia v6 hw (by omega);obtain⟨d1,⟨t,d2⟩,_,_⟩:=Lp hg n p a.To hp hia v6 (by omega);simp only[g1,aL];exact ih (i+1) _ w1 (by omega) (by omega) d1 (by rw[d2];simp;omega) g2;rw[bG hlt];simp only[fX hlt,zD,Sj,List.foldl_nil];exact⟨w,rfl,hw⟩
  have hneed:(o.length+1)*8<=140737488355328/\o.length+1<=140737488355328:=by omega
  obtain⟨w',g1,g2⟩:=key n 0 (o++[v]) _ (by omega) (by omega) sG (by simp) (hw.snoc hv hn);rw[zV,List.drop_zero]at g1;rw[List.drop_zero]at g2;refine⟨w',?_,g2⟩;show Sc n (HX n) v f.Nodes w o=_;simp only[Sc,hw.get _ hv,aB,hneed,and_self,if_true,hx,aL,qn6 (show(nd f v).Arcs.length<=1000000 by omega) hno.dis (show(nd f v).Arcs.length<n by omega)];exact g1
theorem ui{f:aW}{o w:List Int}{z:Int}{l27:List aI}{rc:Int->List aI->Option aW}{x:aI}{l:List aF}(hl:l.length<=1000000)(hw:E2 f w o)(hin:∀a∈l,a.To∈o)(hing:∀v∈o,pM f v):∀(m i:Nat),l.length-i<m->i<=l.length->
  PS (w,o) z l27 rc x m i ((l.take i).map (oJ o)++l.drop i)=Cu z l27 rc x (l.map (oJ o))
 |0,i,hm,_=>by omega
 |m+1,i,hm,hi=>by
  unfold PS;have hlen:((l.take i).map (oJ o)++l.drop i).length=l.length:=by simp;omega
  rw[hlen];by_cases hlt:i<l.length;obtain⟨a,ha,ham⟩:=dM hlt;have e1:(((l.take i).map (oJ o)++l.drop i))[i]? = some a:=by rw[List.getElem?_append_right (by simp;omega)];simp[show min i l.length=i by omega,ha]
  have e2:(((l.take i).map (oJ o)++l.drop i)).set (0+(i:Int).toNat) (oJ o a)=(l.take (i+1)).map (oJ o)++l.drop (i+1):=by
   rw[aQ ha,gM ha];have h3:((l.take i).map (oJ o)).length=i:=by simp;omega
   have:=OE ((l.take i).map (oJ o)) (l.drop (i+1)) a (oJ o a);rw[h3]at this;rw[Nat.zero_add,zZ,this,List.map_append,zQ,List.map_nil,zT];rfl
  have hto:=hin a ham;have e3:(⟨a.Feat,(o.idxOf a.To:Int)⟩:aF)=oJ o a:=rfl;simp only[fO hlt,zC,c6,e1,aL,hw.get _ (hing _ hto),hto,if_true,e3,e2,gI hlt (show l.length<=9223372036854775807 by omega)];exact ui hl hw hin hing m (i+1) (by omega) (by omega);simp only[fX hlt,zD];rw[zW (by omega),List.drop_eq_nil_of_le (by omega),List.append_nil]
theorem uj{f:aW}{k:Nat}(hg:tK f)(hf:cD f k)(hk:k<=1000000){n:Nat}(hn:k+2<=n){r:Int}{o w:List Int}(ho:MW f r o)(hw:E2 f w o):∀(m i:Nat),o.length-i<m->i<=o.length->
  HF f n (w,o) m i ((o.take i).map (oK f o))=some ⟨o.map (oK f o)⟩
 |0,i,hm,_=>by omega
 |m+1,i,hm,hi=>by
  have hol:=ho.seen.len;have hnl:=hf.nodes;unfold HF;by_cases hlt:i<o.length;obtain⟨v,hv,hvm⟩:=dM hlt;obtain⟨hx,hxm⟩:=U3 (ho.seen.ing v hvm);have hno:=hg _ hxm;have hal:=hf.arcs _ hxm;have hsl:(kE f v).length=(nd f v).Arcs.length:=(H3 _).length_eq;have h2:=ui (z:=(i:Int)) (l27:=(o.take i).map (oK f o)) (rc:=HF f n (w,o) m) (x:=nd f v) (l:=kE f v) (by omega) hw (fun a ha=>ho.clo v hvm a (BP.1 ha)) ho.seen.ing n 0 (by omega) (by omega);rw[zV,List.take_zero,List.map_nil,List.nil_append,List.drop_zero]at h2;have hneed:(((o.take i).map (oK f o)).length+1)*32<=140737488355328/\((o.take i).map (oK f o)).length+1<=140737488355328:=by simp;omega
  have hso:=qn6 (show(nd f v).Arcs.length<=1000000 by omega) hno.dis (show(nd f v).Arcs.length<n by omega);simp only[fO hlt,zC,c6,hv,hx,aL,hso];show PS (w,o) i _ _ (nd f v) n 0 (kE f v)=_;rw[h2];simp only[Cu,aB];rw[if_pos hneed,gI hlt (show o.length<=9223372036854775807 by omega)];have:=uj hg hf hk hn ho hw m (i+1) (by omega) (by omega);rw[gM hv]at this;simpa[oK,kE]using this;simp only[fX hlt,zD,Oy];rw[zW (by omega)]
theorem uk{f:aW}(hN:f.Nodes.length<=1000000){r:Int}{n:Nat}:∀(m i:Nat),f.Nodes.length-i<m->i<=f.Nodes.length->W2 f r n m i (List.replicate i (-1))=Cv f r n (List.replicate f.Nodes.length (-1))
 |0,i,hm,_=>by omega
 |m+1,i,hm,hi=>by
  unfold W2;by_cases hlt:i<f.Nodes.length;have hneed:((List.replicate i (-1:Int)).length+1)*8<=140737488355328/\(List.replicate i (-1:Int)).length+1<=140737488355328:=by simp;omega
  have e:List.replicate i (-1:Int)++[-1]=List.replicate (i+1) (-1):=by rw[List.replicate_succ']
  simp only[fO hlt,zC,aB];rw[if_pos hneed,gI hlt (show f.Nodes.length<=9223372036854775807 by omega),e];exact uk hN m (i+1) (by omega) (by omega);simp only[fX hlt,zD];rw[show i=f.Nodes.length by omega]
theorem uh(hg:tK f)(hf:cD f k)(hk:k<=1000000){r:Int}(hr:pM f r)(hn:2*k+4<=n):VE n f r=some (mG f r):=by
 obtain⟨ho,hst⟩:=UT hg hr;have hnl:=hf.nodes;have h0:E2 f (List.replicate f.Nodes.length (-1)) []:=⟨by simp,fun x hx=>by
  have hc:0<=x/\x<((List.replicate f.Nodes.length (-1:Int)).length:Int):=by rw[List.length_replicate];exact hx
  rw[a8,if_pos hc];have:x.toNat<f.Nodes.length:=by have:=hx.1;have:=hx.2;omega
  simp[this]⟩
 obtain⟨w,g1,g2⟩:=ct hg hf hk n [] r _ (Seen.nil f) hr (by simp) h0 (by simp;omega);rw[hst n (by omega)]at g1 g2;have hol:=ho.seen.len;have h1:=uj hg hf hk (show k+2<=n by omega) ho g2 n 0 (by omega) (by omega);rw[zV,List.take_zero,List.map_nil]at h1;have h2:=uk (f:=f) (by omega) (r:=r) (n:=n) n 0 (by omega) (by omega);rw[zV,List.replicate_zero]at h2;simp only[VE,h2,Cv,g1,aL,h1,mG]
theorem qwm(hf:cD f k)(hk:k<=1000000)(hn:2*k+4<=n):Bv n f=some (if AQ f=0 then(mG f 0,0)else(⟨[]⟩,AQ f)):=by
 simp only[Bv,za9 hf hk (show k<n by omega),aL];by_cases he:AQ f=0;obtain⟨e1,e2,e3⟩:=tu.1 he;simp[he,uh e3 hf hk (r:=0) ⟨by omega,by omega⟩ hn,aL];have hb:(AQ f != 0)=true:=by simpa using he
 simp[he,hb]
end Go.Proofs
namespace Go.Proofs
open Go Go.Rx Go.Vx
def rX(l:List aF)(f:Int):Bool:=l.any (fun x=>x.Feat==f)
variable{f:Int}
theorem EQ{l:List aF}:rX l f=true↔∃x∈l,x.Feat=f:=by simp[rX]
def kF(a b:List aF):List aF:=b.filter fun y=>!rX a y.Feat
def prs(a b:List aF):List (Int×Int):=b.filterMap fun y=>(a.find? fun x=>x.Feat==y.Feat).map fun x=>(x.To,y.To)
structure nP(a b out:List aF):Prop where
 up:j8 out
 pm:out.Perm (a++kF a b)
variable{a:List aF}
variable{b:List aF}
variable{o:List aF}
theorem nP.uniq{o':List aF}(h:nP a b o)(h':nP a b o'):o=o':=Wl h.up h'.up (h.pm.trans h'.pm.symm)
variable{x:aF}
theorem ur(hd:jQ a)(hx:x∈a)(hf:x.Feat=f):a.find? (fun x=>x.Feat==f)=some x:=by
 rcases h:a.find? (fun x=>x.Feat==f)with _|y;have:=List.find?_eq_none.1 h x hx;simp[hf]at this;have h1:=List.find?_some h;have h2:=List.mem_of_find?_eq_some h;simp at h1;rw[<-hd.eq y h2 x hx (by omega)];first|exact h|rfl
theorem z24(h:∀x∈a,x.Feat≠f):a.find? (fun x=>x.Feat==f)=none:=by
 rw[List.find?_eq_none];intro x hx;simpa using h x hx
theorem Xw(a b:List aF)(y:aF):kF a (b++[y])=kF a b++(if rX a y.Feat then[]else[y]):=by
 unfold kF;rw[List.filter_append];cases h:rX a y.Feat<;>simp[h]
theorem qp3(hd:jQ a){y:aF}(hx:x∈a)(hf:x.Feat=y.Feat):prs a (b++[y])=prs a b++[(x.To,y.To)]:=by
 simp[prs,List.filterMap_append,ur hd hx hf]
theorem qn1{y:aF}(h:∀x∈a,x.Feat≠y.Feat):prs a (b++[y])=prs a b:=by
 simp[prs,List.filterMap_append,z24 h]
theorem US(a:List aF):∀b:List aF,(kF a b).length+(prs a b).length=b.length
 |[]=>rfl|y::b=>by
  have ih:=US a b;unfold kF prs at*;cases h:a.find? (fun x=>x.Feat==y.Feat)with
  |none=>
   have h2:rX a y.Feat=false:=by rw[List.find?_eq_none]at h;rw[Bool.eq_false_iff];intro e;obtain⟨x,hx,he⟩:=EQ.1 e;have:=h x hx;simp[he]at this
   simp only[List.filter_cons,h2,Bool.not_false,if_true,List.filterMap_cons,h,Option.map_none,zO];omega
  |some x=>have h2:rX a y.Feat=true:=EQ.2 ⟨x,List.mem_of_find?_eq_some h,by have:=List.find?_some h;simpa using this⟩;simp only[List.filter_cons,h2,Bool.not_true,Bool.false_eq_true,if_false,List.filterMap_cons,h,zM,zO];omega
theorem Vu{p:Int×Int}(h:p∈prs a b):∃x∈a,∃y∈b,x.Feat=y.Feat/\p=(x.To,y.To):=by
 obtain⟨y,hy,e⟩:=List.mem_filterMap.1 h;rcases h1:a.find? (fun x=>x.Feat==y.Feat)with _|x;rw[h1]at e;cases e;rw[h1]at e;have h2:=List.find?_some h1;exact⟨x,List.mem_of_find?_eq_some h1,y,hy,by simpa using h2,(Option.some.inj e).symm⟩
theorem nP.len(h:nP a b o):o.length+(prs a b).length=a.length+b.length:=by
 have h1:=h.pm.length_eq;have h2:=US a b;rw[zU]at h1;omega
theorem nP.mem(h:nP a b o)(hx:x∈o):x∈a\/x∈b:=by
 rcases yD.1 (h.pm.mem_iff.1 hx)with h1 |h1;exact Or.inl h1;exact Or.inr (List.mem_filter.1 h1).1
def BN:List aF->List aF->List aF
 |[],b=>b|a,[]=>a
 |x::a,y::b=>if x.Feat<y.Feat then x::BN a (y::b)else if y.Feat<x.Feat then y::BN (x::a) b else x::BN a b
termination_by a b=>a.length+b.length
theorem z79(b:List aF):kF [] b=b:=by simp[kF,rX]
theorem z3h(h:∀y∈b,x.Feat≠y.Feat):kF (x::a) b=kF a b:=by
 unfold kF;apply List.filter_congr;intro y hy;have:=h y hy;simp[rX,this]
theorem nP.step(h:nP a b o)(hx:∀y∈o,x.Feat<y.Feat)(hb:∀y∈b,x.Feat≠y.Feat):nP (x::a) b (x::o):=
 ⟨List.pairwise_cons.2 ⟨hx,h.up⟩,by rw[z3h hb];exact h.pm.cons x⟩
theorem PK:∀(a b:List aF),j8 a->j8 b->nP a b (BN a b)
 |[],b,_,hb=>by rw[BN];exact⟨hb,by rw[z79];exact .refl _⟩
 |x::a,[],ha,_=>by rw[BN];exact⟨ha,by simp[kF]⟩;intro h;cases h
 |x::a,y::b,ha,hb=>by
  obtain⟨h1,h2⟩:=List.pairwise_cons.1 ha;obtain⟨h3,h4⟩:=List.pairwise_cons.1 hb;rw[BN];by_cases e1:x.Feat<y.Feat;rw[if_pos e1];have ih:=PK a (y::b) h2 hb;have hyb:∀z∈y::b,x.Feat<z.Feat:=fun z hz=>by rcases zI.1 hz with rfl |hz;exact e1;have:=h3 z hz;omega
  refine ih.step (fun z hz=>?_) (fun z hz=>by have:=hyb z hz;omega);rcases ih.mem hz with hz |hz;exact h1 z hz;exact hyb z hz;rw[if_neg e1];by_cases e2:y.Feat<x.Feat;rw[if_pos e2];have ih:=PK (x::a) b ha h4;have hya:∀z∈x::a,y.Feat<z.Feat:=fun z hz=>by rcases zI.1 hz with rfl |hz;exact e2;have:=h1 z hz;omega
  refine⟨List.pairwise_cons.2 ⟨fun z hz=>?_,ih.up⟩,?_⟩;rcases ih.mem hz with hz |hz;exact hya z hz;exact h3 z hz;have e:kF (x::a) (y::b)=y::kF (x::a) b:=by
   have:rX (x::a) y.Feat=false:=by rw[Bool.eq_false_iff];intro h;obtain⟨z,hz,e⟩:=EQ.1 h;have:=hya z hz;omega
   unfold kF;simp[List.filter_cons,this]
  rw[e];exact(ih.pm.cons y).trans List.perm_middle.symm;rw[if_neg e2];have e:x.Feat=y.Feat:=by omega
  have ih:=PK a b h2 h4;have h5:=ih.step (x:=x) (fun z hz=>by rcases ih.mem hz with hz |hz;exact h1 z hz;have:=h3 z hz;omega) (fun z hz=>by have:=h3 z hz;omega);refine⟨h5.up,h5.pm.trans ?_⟩;have:kF (x::a) (y::b)=kF (x::a) b:=by have:rX (x::a) y.Feat=true:=EQ.2 ⟨x,by simp,e⟩;unfold kF;simp[List.filter_cons,this]
  rw[this]
 termination_by a b=>a.length+b.length
theorem z42(a:List aF):prs a []=[]:=rfl
variable{a:List aF}
theorem nP.nilr(ha:j8 a):nP a [] a:=⟨ha,by simp[kF]⟩
theorem nP.inn{b o:List aF}{x y:aF}(h:nP a b o)(hx:x∈a)(e:x.Feat=y.Feat):nP a (b++[y]) o:=⟨h.up,by
 have:rX a y.Feat=true:=EQ.2 ⟨x,hx,e⟩;rw[Xw,this];simpa using h.pm⟩
theorem nP.out{b o:List aF}{y:aF}{k:Nat}(h:nP a b o)(h1:∀z∈o.take k,z.Feat<y.Feat)(h2:∀z∈o.drop k,y.Feat<z.Feat):nP a (b++[y]) (o.take k++y::o.drop k):=by
 have hu:=h.up;rw[<-List.take_append_drop k o]at hu;obtain⟨u1,u2,u3⟩:=List.pairwise_append.1 hu;have hn:rX a y.Feat=false:=by rw[Bool.eq_false_iff];intro e;obtain⟨z,hz,e⟩:=EQ.1 e;have hz:z∈o:=h.pm.mem_iff.2 (List.mem_append_left _ hz);rw[<-List.take_append_drop k o]at hz;rcases yD.1 hz with hz |hz;have:=h1 z hz;omega;have:=h2 z hz;omega
 refine⟨List.pairwise_append.2 ⟨u1,List.pairwise_cons.2 ⟨h2,u2⟩,fun z hz w hw=>?_⟩,?_⟩;rcases zI.1 hw with rfl |hw;exact h1 z hz;exact u3 z hz w hw;rw[Xw,hn];refine List.perm_middle.trans ?_;rw[List.take_append_drop];have:(y::o).Perm (y::(a++kF a b)):=h.pm.cons y;refine this.trans ?_;simp only[Bool.false_eq_true,if_false];rw[<-zT];exact(List.perm_append_singleton y _).symm
structure U6(N D:Nat)(rep d:Nat->Nat):Prop where
 lt:∀i,i<N->rep i<N
 idem:∀i,i<N->rep (rep i)=rep i
 zero:∀i,i<N->d (rep i)=0
 bd:∀i,i<N->d i<=D
def fA(rep:Nat->Nat)(m n i:Nat):Nat:=if rep i=n then m else rep i
def yM(rep d:Nat->Nat)(n i:Nat):Nat:=if rep i=n then d i+1 else d i
def ZM(N:Nat)(rep d:Nat->Nat)(i j:Nat):Prop:=j<N/\rep j=rep i/\d j<d i
structure Lr(cells:List aO)(N:Nat)(rep d:Nat->Nat):Prop where
 root:∀(i:Nat)(c:aO),cells[i]? = some c->rep i=i->c.forward= -1
 fwd:∀(i:Nat)(c:aO),cells[i]? = some c->rep i≠i->∃j:Nat,c.forward=(j:Int)/\ZM N rep d i j
variable{N:Nat}
variable{D:Nat}
variable{rep:Nat->Nat}
variable{d:Nat->Nat}
variable{m:Nat}
variable{n:Nat}
theorem U6.mrg(h:U6 N D rep d)(hm:m<N)(em:rep m=m)(en:rep n=n)(hmn:m≠n):U6 N (D+1) (fA rep m n) (yM rep d n) where
 lt i hi:=by unfold fA;split;exact hm;exact h.lt i hi
 idem i hi:=by have h1:=h.idem i hi;unfold fA;by_cases e:rep i=n;simp[e,em,hmn];simp[e,h1]
 zero i hi:=by have h1:=h.idem i hi;have h2:=h.zero i hi;have h3:=h.zero m hm;unfold fA yM;rw[em]at h3;by_cases e:rep i=n;simp[e,em,hmn,h3];simp[e,h1,h2]
 bd i hi:=by have:=h.bd i hi;unfold yM;split<;>omega
variable{i:Nat}
theorem ZM.mrg{D:Nat}{j:Nat}(h:ZM N rep d i j):ZM N (fA rep m n) (yM rep d n) i j:=by
 obtain⟨h1,h2,h3⟩:=h;refine⟨h1,by simp[fA,h2],?_⟩;unfold yM;rw[h2];split<;>omega
theorem z70(h:U6 N D rep d)(hm:m<N)(hn:n<N)(em:rep m=m)(en:rep n=n)(hmn:m≠n):ZM N (fA rep m n) (yM rep d n) n m:=by
 have h3:=h.zero m hm;have h4:=h.zero n hn;rw[em]at h3;rw[en]at h4;refine⟨hm,by simp[fA,em,en,hmn],?_⟩;simp[yM,em,en,hmn,h3,h4]
theorem JV{α:Type}{l:List α}{k:Nat}{x y:α}(h:(l.set k x)[i]? = some y):(i=k/\y=x)\/(i≠k/\l[i]? = some y):=by
 rw[List.getElem?_set]at h;by_cases e:k=i;rw[if_pos e]at h;split at h;exact Or.inl ⟨e.symm,(Option.some.inj h).symm⟩;cases h;rw[if_neg e]at h;exact Or.inr ⟨fun q=>e q.symm,h⟩
theorem z4h(em:rep m=m)(hmn:m≠n)(h:fA rep m n i=i):i≠n/\rep i=i:=by
 unfold fA at h;by_cases e:rep i=n;rw[if_pos e]at h;subst h;exact⟨hmn,em⟩;rw[if_neg e]at h;exact⟨fun q=>e (by rw[h,q]),h⟩
theorem z7q(em:rep m=m)(h:fA rep m n i≠i)(hn:i≠n):rep i≠i:=by
 intro q;apply h;unfold fA;rw[q,if_neg hn]
theorem Lr.mrg{cells:List aO}{N D:Nat}{rep d:Nat->Nat}(h:Lr cells N rep d)(hr:U6 N D rep d){m n:Nat}(hm:m<N)(hn:n<N)(em:rep m=m)(en:rep n=n)(hmn:m≠n)(t:Int)(o:List aF)(z:Int)(q:List aF):
  Lr ((cells.set m ⟨-1,t,o⟩).set n ⟨(m:Int),z,q⟩) N (fA rep m n) (yM rep d n) where
 root i c hc hi:=by obtain⟨h1,h2⟩:=z4h em hmn hi;rcases JV hc with⟨e,_⟩|⟨_,hc⟩;exact absurd e h1;rcases JV hc with⟨e,e2⟩|⟨_,hc⟩;subst e2;rfl;exact h.root i c hc h2
 fwd i c hc hi:=by rcases JV hc with⟨e,e2⟩|⟨h1,hc⟩;subst e2;subst e;exact⟨m,rfl,z70 hr hm hn em en hmn⟩;have h2:=z7q em hi h1;rcases JV hc with⟨e,e2⟩|⟨_,hc⟩;subst e;exact absurd em h2;obtain⟨j,h3,h4⟩:=h.fwd i c hc h2;exact⟨j,h3,h4.mrg (D:=D)⟩
def tot(l:List aO):Nat:=(l.map fun c=>c.arcs.length).sum
theorem UN:∀{l:List aO}{i:Nat}{x:aO}(c:aO),l[i]? = some x->tot (l.set i c)+x.arcs.length=tot l+c.arcs.length
 |[],i,x,c,h=>by simp at h
 |y::l,0,x,c,h=>by
  have:y=x:=by simpa using h
  subst this;simp only[List.set_cons_zero,tot,zQ,List.sum_cons];omega
 |y::l,i+1,x,c,h=>by have:=UN (l:=l) (i:=i) c (by simpa using h);simp only[List.set_cons_succ,tot,zQ,List.sum_cons]at this ⊢;omega
theorem UO:∀{l:List aO}{i:Nat}{x:aO},l[i]? = some x->x.arcs.length<=tot l:=fun{l i x} h=>by
 have:=UN (aO.mk 0 0 []) h;simp only[zS]at this;omega
structure rG(N:Nat)(FB:Int)(l:List aF):Prop where
 up:j8 l
 ok:∀a∈l,0<=a.Feat/\a.Feat<FB/\0<=a.To/\a.To<N
theorem rG.nil(N:Nat)(FB:Int):rG N FB []:=⟨List.Pairwise.nil,fun a h=>by cases h⟩
theorem nP.ok{N:Nat}{FB:Int}{a b o:List aF}(h:nP a b o)(ha:rG N FB a)(hb:rG N FB b):rG N FB o:=⟨h.up,fun x hx=>by
 rcases h.mem hx with h1 |h1;exact ha.ok x h1;exact hb.ok x h1⟩
structure kO(N D:Nat)(FB TB:Int)(cells:List aO)(rep d:Nat->Nat):Prop where
 rok:U6 N D rep d
 cok:Lr cells N rep d
 len:cells.length=N
 ar:∀(i:Nat)(c:aO),cells[i]? = some c->rG N FB c.arcs
 kd:∀(i:Nat)(c:aO),cells[i]? = some c->0<=c.kind/\c.kind<TB
def rW(cells:List aO)(m n:Nat)(t:Int)(o:List aF):List aO:=(cells.set m ⟨-1,t,o⟩).set n ⟨(m:Int),0,[]⟩
theorem kO.mrg{N D:Nat}{FB TB:Int}{cells:List aO}{rep d:Nat->Nat}(h:kO N D FB TB cells rep d){m n:Nat}(hm:m<N)(hn:n<N)(em:rep m=m)(en:rep n=n)(hmn:m≠n){t:Int}{o:List aF}(ho:rG N FB o)(ht:0<=t/\t<TB):
  kO N (D+1) FB TB (rW cells m n t o) (fA rep m n) (yM rep d n) where
 rok:=h.rok.mrg hm em en hmn
 cok:=h.cok.mrg h.rok hm hn em en hmn t o 0 []
 len:=by simp[rW,h.len]
 ar i c hc:=by rcases JV hc with⟨_,e⟩|⟨_,hc⟩;subst e;exact .nil N FB;rcases JV hc with⟨_,e⟩|⟨_,hc⟩;subst e;exact ho;exact h.ar i c hc
 kd i c hc:=by rcases JV hc with⟨_,e⟩|⟨_,hc⟩;subst e;exact⟨by simp,by show(0:Int)<TB;omega⟩;rcases JV hc with⟨_,e⟩|⟨_,hc⟩;subst e;exact ht;exact h.kd i c hc
theorem zbb{cells:List aO}{m n:Nat}{x y:aO}(hx:cells[m]? = some x)(hy:cells[n]? = some y)(hmn:m≠n)(t:Int){o:List aF}(ho:nP x.arcs y.arcs o):
  tot (rW cells m n t o)+(prs x.arcs y.arcs).length=tot cells:=by
 have h1:=UN ⟨-1,t,o⟩ hx;have hy':(cells.set m ⟨-1,t,o⟩)[n]? = some y:=by rw[List.getElem?_set_ne hmn];exact hy
 have h2:=UN ⟨(m:Int),0,[]⟩ hy';have h3:=ho.len;simp only[rW,zS]at*;omega
def n7(tr:List bC)(cells:List aO):List aO:=tr.foldr (fun x l=>l.set x.atx.toNat x.old) cells
theorem Xj(tr:List bC)(x:bC)(cells:List aO):n7 (tr++[x]) cells=n7 tr (cells.set x.atx.toNat x.old):=by simp[n7]
theorem pg{l:List aO}{k:Nat}{x y:aO}(h:l[k]? = some x):(l.set k y).set k x=l:=by
 rw[List.set_set];apply List.ext_getElem? fun i=>?_;rw[List.getElem?_set];by_cases e:k=i;subst e;have hk:=(zG.1 h).1;simp[hk]at h ⊢;exact h.symm;simp[e]
def rI(rep:Nat->Nat)(v:Int):Int:=(rep v.toNat:Int)
def mD(cells:List aO)(v:Int):aO:=(cells[v.toNat]?).getD ⟨-1,0,[]⟩
def TT(out:List aI)(k:Nat)(l:List aF):List aI:=out.set k ⟨((out[k]?).map (·.Typex)).getD 0,l⟩
def qG(g:List Int×List aI->Int->Int×List Int×List aI):List aF->List Int×List aI->List aF->List aF×List Int×List aI
 |[],s,acc=>(acc,s)|a::l,s,acc=>qG g l (g s a.To).2 (acc++[⟨a.Feat,(g s a.To).1⟩])
def vis(cells:List aO)(rep:Nat->Nat):Nat->List Int×List aI->Int->Int×List Int×List aI
 |0,s,_=>(0,s)|k+1,s,v=>if rI rep v∈s.1 then((s.1.idxOf (rI rep v):Int),s)
  else
   let c:=mD cells (rI rep v)
   let r:=qG (vis cells rep k) c.arcs (s.1++[rI rep v],s.2++[⟨c.kind,[]⟩]) []
   ((s.1.length:Int),r.2.1,TT r.2.2 s.1.length r.1)
structure Sn(N:Nat)(B:Nat)(s:List Int×List aI):Prop where
 nd:s.1.Nodup
 ing:∀v∈s.1,0<=v/\v<(N:Int)
 len:s.2.length=s.1.length
 sm:∀x∈s.2,x.Arcs.length<=B
variable{N:Nat}
theorem Sn.le{B:Nat}{s:List Int×List aI}(h:Sn N B s):s.1.length<=N:=Of N h.nd h.ing
theorem Sn.nil(N B:Nat):Sn N B ([],[]):=⟨List.nodup_nil,fun v hv=>(List.not_mem_nil hv).elim,rfl,fun v hv=>(List.not_mem_nil hv).elim⟩
theorem Sn.snoc{B:Nat}{s:List Int×List aI}(h:Sn N B s){v:Int}(hv:0<=v/\v<(N:Int))(hn:v ∉ s.1)(k:Int):Sn N B (s.1++[v],s.2++[⟨k,[]⟩]):=⟨by
 rw[List.nodup_append];refine⟨h.nd,by simp,?_⟩;intro a ha b hb;simp at hb;subst hb;intro e;subst e;exact hn ha,fun u hu=>by
 rcases yD.1 hu with hu |hu;exact h.ing u hu;simp at hu;subst hu;exact hv,by simp[h.len],fun x hx=>by
 rcases yD.1 hx with hx |hx;exact h.sm x hx;simp at hx;subst hx;simp⟩
theorem kO.cel{D:Nat}{FB TB:Int}{cells:List aO}{rep d:Nat->Nat}(h:kO N D FB TB cells rep d){v:Int}(hv:0<=v/\v<(N:Int)):cells[v.toNat]? = some (mD cells v):=by
 have h1:=h.len;have h2:v.toNat<cells.length:=by omega
 rw[mD,List.getElem?_eq_getElem h2];rfl
theorem kO.rI{N D:Nat}{FB TB:Int}{cells:List aO}{rep d:Nat->Nat}(h:kO N D FB TB cells rep d){v:Int}(hv:0<=v/\v<(N:Int)):0<=rI rep v/\rI rep v<(N:Int):=by
 have:=h.rok.lt v.toNat (by omega);unfold Go.Proofs.rI;omega
theorem ss(g:List Int×List aI->Int->Int×List Int×List aI):∀(l:List aF)(s:List Int×List aI)(acc:List aF),(qG g l s acc).1.length=acc.length+l.length
 |[],s,acc=>rfl|a::l,s,acc=>by rw[qG,ss g l];simp;omega
theorem Tz{N D B:Nat}{FB TB:Int}{cells:List aO}{rep d:Nat->Nat}(h:kO N D FB TB cells rep d)(hB:tot cells<=B):∀(k:Nat)(s:List Int×List aI)(v:Int),Sn N B s->(0<=v/\v<(N:Int))->N-s.1.length<k->
  Sn N B (vis cells rep k s v).2/\s.1.length<=(vis cells rep k s v).2.1.length/\(0<(vis cells rep k s v).2.1.length)
 |0,s,v,hs,hv,hk=>by omega
 |k+1,s,v,hs,hv,hk=>by
  unfold vis;by_cases hm:rI rep v∈s.1;rw[if_pos hm];exact⟨hs,zF _,List.length_pos_of_mem hm⟩;rw[if_neg hm];have hr:=h.rI hv;have sG:=hs.snoc hr hm (mD cells (rI rep v)).kind;have hc:=h.cel hr;have har:=h.ar _ _ hc;have xW:=sG.le;simp only[zU,zO,zS]at xW;have key:∀(l:List aF),(∀a∈l,0<=a.To/\a.To<(N:Int))->∀(s':List Int×List aI)(acc:List aF),Sn N B s'->s.1.length+1<=s'.1.length->Sn N B (qG (vis cells rep k) l s' acc).2/\s.1.length+1<=(qG (vis cells rep k) l s' acc).2.1.length:=by
   intro l;induction l with
   |nil=>intro _ s' acc h1 h2;exact⟨h1,h2⟩|cons a l ih=>intro hl s' acc h1 h2;have ha:=hl a (by simp);obtain⟨g1,g2,g3⟩:=Tz h hB k s' a.To h1 ha (by omega);exact ih (fun b hb=>hl b (List.mem_cons_of_mem _ hb)) _ _ g1 (by omega)
  obtain⟨g1,g2⟩:=key _ (fun a ha=>(har.ok a ha).2.2) _ [] sG (by simp);refine⟨⟨g1.nd,g1.ing,?_,?_⟩,?_,?_⟩;show(TT _ _ _).length=_;rw[TT,List.length_set];exact g1.len;intro x hx;rcases List.mem_or_eq_of_mem_set hx with hx |hx;exact g1.sm x hx;subst hx;show(qG _ _ _ _).1.length<=B;rw[ss];have:=UO hc;simp;omega;show s.1.length<=(qG (vis cells rep k) _ _ _).2.1.length;omega;show 0<(qG (vis cells rep k) _ _ _).2.1.length;omega
end Go.Proofs
namespace Go.Proofs
open Go Go.Rx Go.Vx
set_option maxRecDepth 10000
theorem ud{N D:Nat}{FB TB:Int}{cells:List aO}{rep d:Nat->Nat}(h:kO N D FB TB cells rep d):∀(k i:Nat),d i<k->i<N->WX cells k (i:Int)=some (rep i:Int)
 |0,i,hk,_=>by omega
 |k+1,i,hk,hi=>by
  have hl:=h.len;obtain⟨c,hc,_⟩:=dM (l:=cells) (show i<cells.length by omega);simp only[WX,c6,hc,aL];by_cases e:rep i=i;have:=h.cok.root i c hc e;simp[this,Rz,e];obtain⟨j,h1,h2,h3,h4⟩:=h.cok.fwd i c hc e;have h5:decide (c.forward>=0)=true:=by simp[h1]
  rw[h5,zC,h1,ud h k j (by omega) h2,h3]
theorem Wz{N D:Nat}{FB TB:Int}{cells:List aO}{rep d:Nat->Nat}(h:kO N D FB TB cells rep d){n:Nat}(hn:D<n){v:Int}(hv:0<=v/\v<(N:Int))(p2:List dI)(p3:List eE)(p6:List bC)(p8:List cN):
  WR n v p2 p3 cells p6 p8=some (rI rep v):=by
 have h1:v.toNat<N:=by omega
 have h2:=h.rok.bd _ h1;have:=ud h n v.toNat (by omega) h1;rw[show((v.toNat:Nat):Int)=v by omega]at this;exact this
theorem QX{i j:Nat}(h:i+j<=1000000000):IntKind.i64.wrap ((IntKind.u64.wrap (IntKind.i64.wrap ((i:Int)+(j:Int)))).fdiv (2^(min (1:Int).toNat IntKind.u64.bits)))=(((i+j)/2:Nat):Int):=by
 have e1:IntKind.i64.wrap ((i:Int)+(j:Int))=((i+j:Nat):Int):=yS (by omega) (by omega);have e2:IntKind.u64.wrap ((i+j:Nat):Int)=((i+j:Nat):Int):=by unfold IntKind.wrap;simp only[IntKind.signed,IntKind.bits,Bool.false_and,Bool.false_eq_true,if_false];omega
 have e3:min (1:Int).toNat IntKind.u64.bits=1:=rfl;have e4:((i+j:Nat):Int).fdiv (2^1)=(((i+j)/2:Nat):Int):=by rw[show(2:Int)^1=((2:Nat):Int) by rfl,Int.fdiv_eq_ediv_of_nonneg _ (Int.natCast_nonneg _)];rfl
 rw[e1,e2,e3,e4];exact wr (by omega) (by omega)
theorem j8.lt{l:List aF}(h:j8 l){i j:Nat}{x y:aF}(hi:l[i]? = some x)(hj:l[j]? = some y)(hij:i<j):x.Feat<y.Feat:=by
 obtain⟨h1,e1⟩:=zG.1 hi;obtain⟨h2,e2⟩:=zG.1 hj;have:=List.pairwise_iff_getElem.1 h i j h1 h2 hij;rw[e1,e2]at this;exact this
structure At(l:List aF)(f:Int)(k:Nat):Prop where
 le:k<=l.length
 lo:∀(i:Nat)(x:aF),l[i]? = some x->i<k->x.Feat<f
 hi:∀(i:Nat)(x:aF),l[i]? = some x->k<=i->f<=x.Feat
theorem vq(n:Nat){x:aF}{f:Int}(h1:0<=x.Feat/\x.Feat<1000000000)(h2:0<=f/\f<1000000000):PX n x f=some (x.Feat-f):=by
 rw[PX,wr (by omega) (by omega)]
theorem T5{N:Nat}{FB:Int}{l:List aF}(h:rG N FB l)(J:FB<=1000000000)(hl:l.length<=1000000){f:Int}(hf:0<=f/\f<FB)(n:Nat):∀(m i j:Nat),j-i<m->i<=j->j<=l.length->(∀(k:Nat)(x:aF),l[k]? = some x->k<i->x.Feat<f)->(∀(k:Nat)(x:aF),l[k]? = some x->j<=k->f<=x.Feat)->
  ∃(k:Nat)(b:Bool),KW l f (PX n) m (i:Int) (j:Int)=some ((k:Int),b)/\At l f k/\(b=true↔∃x,l[k]? = some x/\x.Feat=f)
 |0,i,j,hm,_,_,_,_=>by omega
 |m+1,i,j,hm,hij,hj,h1,h2=>by
  unfold KW;by_cases e:i<j;have e1:decide ((i:Int)<(j:Int))=true:=by simp;omega
  have hmid:=QX (i:=i) (j:=j) (by omega);obtain⟨x,hx,hxm⟩:=dM (l:=l) (show(i+j)/2<l.length by omega);have hxo:=h.ok x hxm;have hc:=vq n (x:=x) (f:=f) (by omega) (by omega);simp only[e1,zC,hmid,c6,hx,aL,hc];by_cases h3:x.Feat-f<0;have e2:IntKind.i64.wrap ((((i+j)/2:Nat):Int)+1)=(((i+j)/2+1:Nat):Int):=yS (by omega) (by omega);simp only[h3,yC,zC,X6,e2];refine T5 h J hl hf n m ((i+j)/2+1) j (by omega) (by omega) hj (fun k y hy hk=>?_) h2;by_cases e3:k=(i+j)/2;subst e3;rw[hx]at hy;have:=Option.some.inj hy;subst this;omega;have:=h.up.lt hy hx (by omega);omega;simp only[h3,yB,zD,X6];refine T5 h J hl hf n m i ((i+j)/2) (by omega) (by omega) (by omega) h1 (fun k y hy hk=>?_);by_cases e3:k=(i+j)/2;subst e3;rw[hx]at hy;have:=Option.some.inj hy;subst this;omega;have:=h.up.lt hx hy (by omega);omega;have e0:i=j:=by omega
  subst e0;have e1:decide ((i:Int)<(i:Int))=false:=by simp
  have hat:At l f i:=⟨hj,h1,h2⟩;simp only[e1,zD,Sm];by_cases hlt:i<l.length;obtain⟨x,hx,hxm⟩:=dM hlt;have hxo:=h.ok x hxm;have hc:=vq n (x:=x) (f:=f) (by omega) (by omega);simp only[fO hlt,zC,c6,hx,aL,hc];refine⟨i,_,rfl,hat,?_⟩;rw[beq_iff_eq];constructor;intro q;exact⟨x,hx,by omega⟩;rintro⟨y,hy,q⟩;rw[hx]at hy;have:=Option.some.inj hy;subst this;omega;simp only[fX hlt,zD,aL];refine⟨i,false,rfl,hat,by simp,?_⟩;rintro⟨y,hy,_⟩;exact absurd (zG.1 hy).1 hlt
def pk(p:Int×Int):fE:=⟨p.1,p.2⟩
theorem Wy{N:Nat}{FB:Int}{a b:List aF}(ha:rG N FB a)(hb:rG N FB b)(J:FB<=1000000000)(hla:a.length<=20000)(hlb:b.length<=20000){n:Nat}(hn:60000<=n):∀(m k:Nat)(o:List aF),b.length-k<m->k<=b.length->nP a (b.take k) o->
  ∃o',QA b n m (k:Int) ((prs a (b.take k)).map pk) o=some (o',(prs a b).map pk)/\nP a b o'
 |0,k,o,hm,_,_=>by omega
 |m+1,k,o,hm,hk,ho=>by
  unfold QA;have hol:=ho.len;have hbk:(b.take k).length<=20000:=by rw[List.length_take];omega
  by_cases hlt:k<b.length;obtain⟨y,hy,hym⟩:=dM hlt;have hyo:=hb.ok y hym;have hoo:=ho.ok ha ⟨hb.up.sublist (List.take_sublist k b),fun x hx=>hb.ok x (List.mem_of_mem_take hx)⟩;obtain⟨i,bb,s1,s2,s3⟩:=T5 hoo J (by omega) (f:=y.Feat) ⟨hyo.1,hyo.2.1⟩ n n 0 o.length (by omega) (by omega) (zF _) (fun k x _ h=>by omega) (fun k x hx h=>by have:=(zG.1 hx).1;omega);rw[zV]at s1;simp only[fO hlt,zC,c6,hy,aL,Sl,s1];have ht:=gM hy;cases bb with
  |true=>
   obtain⟨x,hx,e⟩:=s3.1 rfl;have hxm:=zX hx;have hxa:x∈a:=by
    rcases yD.1 (ho.pm.mem_iff.1 hxm)with h |h;exact h;exfalso;have h1:=(List.mem_filter.1 h).1;obtain⟨q,hq⟩:=List.mem_iff_getElem?.1 h1;have I5:q<k:=by have:=(zG.1 hq).1;rw[List.length_take]at this;omega
    rw[List.getElem?_take_of_lt I5]at hq;have:=hb.up.lt hq hy I5;omega
   have hp:=qp3 (b:=b.take k) ha.up.dis hxa e;have hpl:(prs a (b.take k)).length<=20000:=by have:=US a (b.take k);omega
   simp only[zC,hx,aL,gI hlt (show b.length<=9223372036854775807 by omega)];rw[aB,if_pos (by simp only[yA];omega)];have hin:=ho.inn hxa e;rw[<-ht]at hp hin
   have:=Wy ha hb J hla hlb hn m (k+1) o (by omega) (by omega) hin
   rw[hp,List.map_append]at this;exact this
  |false=>
   have hno:∀x,o[i]? = some x->x.Feat≠y.Feat:=fun x hx e=>by have:=s3.2 ⟨x,hx,e⟩;cases this
   have hlo:∀z∈o.take i,z.Feat<y.Feat:=fun z hz=>by
    obtain⟨q,hq⟩:=List.mem_iff_getElem?.1 hz;have I5:q<i:=by have:=(zG.1 hq).1;rw[List.length_take]at this;omega
    rw[List.getElem?_take_of_lt I5]at hq;exact s2.lo q z hq I5
   have hhi:∀z∈o.drop i,y.Feat<z.Feat:=fun z hz=>by
    obtain⟨q,hq⟩:=List.mem_iff_getElem?.1 hz;rw[List.getElem?_drop]at hq;have h1:=s2.hi (i+q) z hq (by omega);cases q with
    |zero=>have:=hno z hq;omega|succ q=>obtain⟨x,hx,_⟩:=dM (l:=o) (show i<o.length by have:=(zG.1 hq).1;omega);have h2:=hoo.up.lt hx hq (by omega);have h3:=s2.hi i x hx (zF _);omega
   have hout:=ho.out hlo hhi;have hna:∀x∈a,x.Feat≠y.Feat:=fun x hx e=>by have hxo:x∈o:=ho.pm.mem_iff.2 (List.mem_append_left _ hx);rw[<-List.take_append_drop i o]at hxo;rcases yD.1 hxo with h |h;have:=hlo x h;omega;have:=hhi x h;omega
   have hp:=qn1 (b:=b.take k) hna;have hile:=s2.le;have hins:Ry n (i:Int) o y.Feat y.To=some (o.take i++y::o.drop i):=by rw[Ry,aB,if_pos (by omega),zZ]
   simp only[zD,hins,aL,gI hlt (show b.length<=9223372036854775807 by omega)];rw[<-ht]at hp hout;have:=Wy ha hb J hla hlb hn m (k+1) _ (by omega) (by omega) hout;rw[hp]at this;exact this
  have e:b.take k=b:=zW (by omega);rw[e]at ho ⊢;simp only[fX hlt,zD,Qt];exact⟨o,rfl,ho⟩
end Go.Proofs
namespace Go.Proofs
open Go Go.Rx Go.Vx Go.Shelf Go.Sort
set_option maxRecDepth 10000
abbrev Str:=List UInt8
theorem gS{α S R:Type}{l:List α}(hl:l.length<=9223372036854775807){F:Nat->Int->S->Option R}(I:Nat->S->Prop){Q:R->Prop}
  (h:∀(m i:Nat)(x:α)(s:S),l[i]? = some x->i<l.length->decide ((i:Int)<(l.length:Int))=true->IntKind.i64.wrap ((i:Int)+1)=((i+1:Nat):Int)->I i s->(∀s',I (i+1) s'->∃r,F m ((i+1:Nat):Int) s'=some r/\Q r)->∃r,F (m+1) (i:Int) s=some r/\Q r)
  (hK:∀(m:Nat)(s:S),decide ((l.length:Int)<(l.length:Int))=false->I l.length s->∃r,F (m+1) (l.length:Int) s=some r/\Q r):
  ∀(m i:Nat)(s:S),l.length-i<m->i<=l.length->I i s->∃r,F m (i:Int) s=some r/\Q r
 |0,i,s,hm,_,_=>by omega
 |m+1,i,s,hm,hi,hs=>by
  by_cases hlt:i<l.length;obtain⟨x,hx,_⟩:=dM hlt;exact h m i x s hx hlt (fO hlt) (gI hlt hl) hs fun s' hs'=>gS hl I h hK m (i+1) s' (by omega) (by omega) hs';have:i=l.length:=by omega
  subst this;exact hK m s (fX (by omega)) hs
theorem dZ{β:Type}{p:Prop}[Decidable p]{k:Option β}(h:p):aB p k=k:=if_pos h
theorem xq{a b:Str}(h:a≠b):iX a b=false:=by
 rcases e:iX a b with _|_;rfl;exact absurd ((Za _ _).1 e) h
theorem DI(a b:Str):iX a b=decide (a=b):=by
 by_cases h:a=b;rw[(Za _ _).2 h];simp[h];rw[xq h];simp[h]
variable{α:Type}
variable{l:List α}
theorem vp{a b:Nat}(h1:a<=b)(h2:b<=l.length):oH l (a:Int) (b:Int)=some ((l.drop a).take (b-a)):=by
 unfold oH;have:0<=(a:Int)/\(a:Int)<=(b:Int)/\(b:Int)<=(l.length:Int):=by omega
 simp[this,List.drop_take]
theorem Kk{b:Nat}(h2:b<=l.length):oH l 0 (b:Int)=some (l.take b):=by
 have:=vp (l:=l) (Nat.zero_le b) h2
 rwa [zV,List.drop_zero,Nat.sub_zero]at this
theorem Jc{a:Nat}(h2:a<=l.length):oH l (a:Int) (l.length:Int)=some (l.drop a):=by
 have:=vp (l:=l) h2 (zF _)
 rwa [zW (by simp)]at this
theorem zav(n:Nat)(z:Int)(b:Bool):∃r,Bn n z b=some r:=by
 simp only[Bn,PQ,Od,Ce];cases decide (z>=48)<;>cases decide (z<=57)<;>cases (z==45)<;>cases b<;>cases decide (z>=65)<;>cases decide (z<=90)<;>cases decide (z>=97)<;>cases decide (z<=122)<;>exact⟨_,rfl⟩
variable{s:Str}
theorem pc{i:Nat}{x:UInt8}(h:s[i]? = some x):OL s (i:Int)=some (x.toNat:Int):=by
 have:=(zG.1 h).1;have h2:0<=(i:Int)/\(i:Int)<(s.length:Int):=by omega
 simp[OL,h2,h]
variable{n:Nat}
theorem gi(s:Str)(b:Bool)(hn:40<=n):∃r,VL n s b=some r/\(r=true->0<s.length/\s.length<=32):=by
 unfold VL;by_cases h1:(s.length:Int)<1;simp only[h1,yC,zC,aL];exact⟨false,rfl,fun h=>by cases h⟩;by_cases h2:(s.length:Int)>32;simp only[h1,h2,yC,yB,zC,zD,aL];exact⟨false,rfl,fun h=>by cases h⟩;obtain⟨x,hx,_⟩:=dM (show 0<s.length by omega);have h3:=pc hx;rw[zV]at h3;have hd:∃r,PQ n (x.toNat:Int)=some r:=by unfold PQ;cases decide ((x.toNat:Int)>=48)<;>exact⟨_,rfl⟩
 obtain⟨c,hc⟩:=hd;have key:=gS (l:=s) (by omega) (F:=fun m z (_:Unit)=>Q8 s b n m z) (fun _ _=>True) (Q:=fun r=>True)
  (fun m i x _ hx hlt hd hw _ ih=>by obtain⟨r,hr⟩:=zav n (x.toNat:Int) b;obtain⟨q,hq,_⟩:=ih () trivial;simp only[Q8,hd,zC,pc hx,aL,hr,hw];rcases r with _|_;exact⟨_,rfl,trivial⟩;exact⟨q,hq,trivial⟩)
  (fun m _ hd _=>by simp only[Q8,hd,zD,Qq];exact⟨_,rfl,trivial⟩) n 0 () (by omega) (by omega) trivial
 obtain⟨q,hq,_⟩:=key;rw[zV]at hq;simp only[h1,h2,yB,zD,h3,aL,hc];cases c with
 |true=>simp only[zC,aL];exact⟨false,rfl,fun h=>by cases h⟩|false=>simp only[zD,aL];rcases((x.toNat:Int)==45)with _|_;exact⟨q,hq,fun _=>by omega⟩;exact⟨false,rfl,fun h=>by cases h⟩
theorem vi{d:List bA}(hd:d.length<=1000000){s:Str}:∀(m i:Nat),d.length-i<m->i<=d.length->
  (∃j x,i<=j/\d[j]? = some x/\x.Name=s/\(∀k y,i<=k->k<j->d[k]? = some y->y.Name≠s)/\PV d s m i=some (j:Int))\/((∀x∈d.drop i,x.Name≠s)/\PV d s m i=some (-1))
 |0,i,hm,_=>by omega
 |m+1,i,hm,hi=>by unfold PV;by_cases hlt:i<d.length;obtain⟨x,hx,_⟩:=dM hlt;simp only[fO hlt,zC,c6,hx,aL,gI hlt (show d.length<=9223372036854775807 by omega),DI];by_cases hb:x.Name=s;simp only[hb,yC,zC];exact .inl ⟨i,x,zF _,hx,hb,fun k y h1 h2=>by omega,rfl⟩;simp only[hb,yB,zD];rcases vi hd (s:=s) m (i+1) (by omega) (by omega)with⟨j,y,h1,h2,h3,h4,h5⟩|⟨h1,h2⟩;refine .inl ⟨j,y,by omega,h2,h3,fun k z Gm w6 hz=>?_,h5⟩;by_cases e:k=i;subst e;rw[hx]at hz;cases hz;exact hb;exact h4 k z (by omega) w6 hz;refine .inr ⟨fun y hy=>?_,h2⟩;rw[aQ hx]at hy;rcases zI.1 hy with rfl |hy;exact hb;exact h1 y hy;simp only[fX hlt,zD,Ph,bG hlt];exact .inr ⟨fun x hx=>(List.not_mem_nil hx).elim,by simp⟩
variable{d:List bA}
theorem GV(hd:d.length<=1000000)(s:Str)(hn:d.length<n):
  (∃(j:Nat)(x:bA),d[j]? = some x/\x.Name=s/\(∀k y,k<j->d[k]? = some y->y.Name≠s)/\BY n d s=some (j:Int))\/((∀x∈d,x.Name≠s)/\BY n d s=some (-1)):=by
 rcases vi hd (s:=s) n 0 (by omega) (by omega)with⟨j,y,_,h2,h3,h4,h5⟩|⟨h1,h2⟩;exact .inl ⟨j,y,h2,h3,fun k z hk hz=>h4 k z (by omega) hk hz,h5⟩;exact .inr ⟨by rw[List.drop_zero]at h1;exact h1,h2⟩
theorem sf{l:List Str}(hl:l.length<=1000000){s:Str}:∀(m i:Nat),l.length-i<m->i<=l.length->WC l s m i=some (decide (s∈l.drop i))
 |0,i,hm,_=>by omega
 |m+1,i,hm,hi=>by unfold WC;by_cases hlt:i<l.length;obtain⟨x,hx,_⟩:=dM hlt;simp only[fO hlt,zC,c6,hx,aL,aQ hx,zI,gI hlt (show l.length<=9223372036854775807 by omega),DI];by_cases e:x=s;simp[e];have e':¬ s=x:=fun h=>e h.symm;simp only[e,e',yB,zD,false_or];exact sf hl m (i+1) (by omega) (by omega);simp only[fX hlt,zD,Ql,bG hlt,List.not_mem_nil,yB]
variable{l:List Str}
theorem H2(hl:l.length<=1000000)(s:Str)(hn:l.length<n):A7 n l s=some (decide (s∈l)):=by
 have:=sf hl (s:=s) n 0 (by omega) (by omega);rw[zV,List.drop_zero]at this;exact this
def eG(l:List Str):Prop:=l.Pairwise fun a b=>iI a b=true
theorem eG.nodup(h:eG l):l.Nodup:=h.imp fun{a b} h e=>by subst e;rw[qj3]at h;cases h
theorem jx(hl:l.length<=1000000)(ha:eG l){j:Nat}(hj:j<=l.length)(hb:∀x∈l.take j,iI x s=true)(hx:∀x,l[j]? = some x->iI x s=false):∃out,Cp l s j=some out/\(∀x,x∈out↔x=s\/x∈l)/\out.length<=l.length+1/\eG out:=by
 unfold Cp;have tl:(l.take j).length=j:=by simp;omega
 have dl:(l.drop j).length=l.length-j:=by simp
 have ins:(∀x∈l.drop j,iI s x=true)->∃out,(a7 (oH l 0 (j:Int)) fun eV=>
  aB (eV.length*16<=140737488355328/\eV.length<=140737488355328) (
  aB ((eV.length+1)*16<=140737488355328/\eV.length+1<=140737488355328) (
  a7 (oH l (j:Int) (l.length:Int)) fun dB=>
  aB (((eV++[s]).length+dB.length)*16<=140737488355328/\(eV++[s]).length+dB.length<=140737488355328) (
  some ((eV++[s])++dB)))))=some out/\(∀x,x∈out↔x=s\/x∈l)/\out.length<=l.length+1/\eG out:=by
  intro hd;refine⟨(l.take j++[s])++l.drop j,?_,fun x=>?_,by simp;omega,?_⟩;rw[Kk hj,aL,dZ (by rw[tl];omega),dZ (by rw[tl];omega),Jc hj,aL,dZ (by rw[zU,tl,dl];simp;omega)];have:=List.take_append_drop j l;constructor;intro h;simp only[yD,List.mem_singleton]at h;rcases h with(h |h)|h;exact .inr (List.mem_of_mem_take h);exact .inl h;exact .inr (List.mem_of_mem_drop h);rintro(h |h);simp[h];rw[<-this]at h;simp only[yD]at h ⊢;rcases h with h |h;exact .inl (.inl h);exact .inr h;unfold eG at*;rw[<-List.take_append_drop j l,List.pairwise_append]at ha;rw[List.pairwise_append,List.pairwise_append];refine⟨⟨ha.1,by simp,fun a h1 b h2=>by simp at h2;subst h2;exact hb a h1⟩,ha.2.1,fun a h1 b h2=>?_⟩;rcases yD.1 h1 with h1 |h1;exact ha.2.2 a h1 b h2;simp at h1;subst h1;exact hd b h2
 by_cases hlt:j<l.length;obtain⟨x,hxj,hxm⟩:=dM hlt;have h1:=hx x hxj;simp only[fO hlt,zC,c6,hxj,aL,DI];by_cases e:x=s;subst e;simp only[yC,zC];exact⟨l,rfl,fun y=>⟨fun h=>.inr h,fun h=>h.elim (fun h=>h ▸ hxm) id⟩,by omega,ha⟩;simp only[e,yB,zD];have h2:iI s x=true:=by rcases h3:iI s x with _|_;exact absurd (qkb x s h1 h3) e;rfl
 refine ins fun y hy=>?_;rw[aQ hxj]at hy;rcases zI.1 hy with rfl |hy
 exact h2;have:l=l.take (j+1)++l.drop (j+1):=(List.take_append_drop _ _).symm;unfold eG at ha;rw[this,List.pairwise_append]at ha;exact qkc _ _ _ h2 (ha.2.2 x (by rw[gM hxj];simp) y hy);simp only[fX hlt,zD,aL];exact ins fun y hy=>by rw[bG hlt]at hy;cases hy
theorem KX{l:List Str}(hl:l.length<=1000000)(ha:eG l){s:Str}:∀(m i:Nat),l.length-i<m->i<=l.length->(∀x∈l.take i,iI x s=true)->∃out,VT l s m i=some out/\(∀x,x∈out↔x=s\/x∈l)/\out.length<=l.length+1/\eG out
 |0,i,hm,_,_=>by omega
 |m+1,i,hm,hi,hb=>by
  unfold VT;by_cases hlt:i<l.length;obtain⟨x,hx,_⟩:=dM hlt;simp only[fO hlt,zC,c6,hx,aL,gI hlt (show l.length<=9223372036854775807 by omega)];cases hbl:iI x s with
  |true=>
   simp only[zC];refine KX hl ha m (i+1) (by omega) (by omega) fun y hy=>?_;rw[gM hx]at hy;rcases yD.1 hy with hy |hy
   exact hb y hy;simp at hy;subst hy;exact hbl
  |false=>simp only[zD];exact jx hl ha hi hb fun y hy=>by rw[hx]at hy;cases hy;exact hbl
  simp only[fX hlt,zD,aL];exact jx hl ha hi hb fun y hy=>by have:=(zG.1 hy).1;omega
theorem UB(hl:l.length<=1000000)(ha:eG l)(s:Str)(hn:l.length<n):∃out,H4 n l s=some out/\(∀x,x∈out↔x=s\/x∈l)/\out.length<=l.length+1/\eG out:=by
 have:=KX hl ha (s:=s) n 0 (by omega) (by omega) (by simp);rw[zV]at this;exact this
structure sU(l0 l:List Str)(out:List Str):Prop where
 mem:∀x,x∈out↔x∈l0\/x∈l
 len:out.length<=l0.length+l.length
 asc:eG out
theorem sU.next{l0 out out':List Str}(h:sU l0 l out)(h1:∀x,x∈out'↔x=s\/x∈out)(h2:out'.length<=out.length+1)(h3:eG out'):sU l0 (l++[s]) out':=by
 refine⟨fun x=>?_,by have:=h.len;simp;omega,h3⟩;rw[h1,h.mem];simp only[yD,List.mem_singleton];constructor;rintro(h |h |h);exact .inr (.inr h);exact .inl h;exact .inr (.inl h);rintro(h |h |h);exact .inr (.inl h);exact .inr (.inr h);exact .inl h
theorem sU.nil(h:eG l):sU l [] l:=⟨fun x=>by simp,by simp,h⟩
theorem lI'(hd:d.length<=1000)(hn:5000<=n):∃out,Bz n d=some out/\sU [] (d.map bA.Name) out:=by
 have:=gS (l:=d) (by omega) (F:=fun m z s=>Q7 d n m s z) (fun i s=>sU [] ((d.take i).map bA.Name) s) (Q:=fun out=>sU [] (d.map bA.Name) out)
  (fun m i x s hx hlt hd' hw hI ih=>by have hl:=hI.len;simp at hl;obtain⟨o,h1,h2,h3,h4⟩:=UB (l:=s) (by omega) hI.asc x.Name (show s.length<n by omega);simp only[Q7,hd',zC,c6,hx,aL,h1,hw];exact ih o (by rw[gM hx,List.map_append];exact hI.next h2 h3 h4))
  (fun m s hd' hI=>by simp only[Q7,hd',zD,Qg];rw[zW (zF _)]at hI;exact⟨s,rfl,hI⟩) n 0 [] (by omega) (by omega) (sU.nil List.Pairwise.nil)
 rw[zV]at this;exact this
theorem z7u(hd:d.length<=12)(hn:5000<=n):∃e,By n d=some e/\(e=0->∀x∈d,x.Supers.length<=256/\x.Feats.length<=256):=by
 have:=gS (l:=d) (by omega) (F:=fun m z (_:Unit)=>Q4 d m z) (fun i _=>∀x∈d.take i,x.Supers.length<=256/\x.Feats.length<=256) (Q:=fun e=>e=0->∀x∈d,x.Supers.length<=256/\x.Feats.length<=256)
  (fun m i x _ hx hlt hd' hw hI ih=>by
   simp only[Q4,hd',zC,c6,hx,aL,hw];by_cases h1:(x.Supers.length:Int)>256;simp only[h1,yC,zC,aL];exact⟨7,rfl,fun h=>by cases h⟩;by_cases h2:(x.Feats.length:Int)>256;simp only[h1,h2,yC,yB,zC,zD,aL];exact⟨7,rfl,fun h=>by cases h⟩;simp only[h1,h2,yB,zD,aL];refine ih () fun y hy=>?_;rw[gM hx]at hy;rcases yD.1 hy with hy |hy
   exact hI y hy;simp at hy;subst hy;omega)
  (fun m _ hd' hI=>by simp only[Q4,hd',zD,Qc];rw[zW (zF _)]at hI;exact⟨0,rfl,fun _=>hI⟩) n 0 () (by omega) (by omega) (by simp)
 rw[zV]at this;have h:¬ (d.length:Int)>256:=by omega
 simp only[By,h,yB,zD];exact this
theorem zaq(s:Str)(hn:40<=n):∃r,Bo n s=some r/\(r=true->0<s.length/\s.length<=32):=by
 obtain⟨r,h1,h2⟩:=gi s false hn;exact⟨r,by simp[Bo,h1,aL],h2⟩
structure ZL(d:List bA):Prop where
 nod:(d.map bA.Name).Nodup
 len:∀x∈d,0<x.Name.length/\x.Name.length<=32
theorem z1o(hd:d.length<=12)(hn:5000<=n):∃e,Ob n d=some e/\(e=0->ZL d):=by
 have:=gS (l:=d) (by omega) (F:=fun m z (_:Unit)=>Q6 d n m z) (fun i _=>ZL (d.take i)) (Q:=fun e=>e=0->ZL d)
  (fun m i x _ hx hlt hd' hw hI ih=>by obtain⟨r,h1,h2⟩:=zaq x.Name (show 40<=n by omega);simp only[Q6,hd',zC,c6,hx,aL,hw,h1];rcases r with _|_;exact⟨1,rfl,fun h=>by cases h⟩;simp only[Bool.not_true,zD];rcases GV (d:=d) (by omega) x.Name (show d.length<n by omega)with⟨j,y,g1,g2,g3,g4⟩|⟨g1,g2⟩;simp only[g4,aL];by_cases hj:(j:Int)<(i:Int);simp only[hj,yC,zC];exact⟨4,rfl,fun h=>by cases h⟩;simp only[hj,yB,zD];refine ih () ?_;rw[gM hx];refine⟨?_,fun z hz=>?_⟩;rw[List.map_append,List.nodup_append];refine⟨hI.nod,by simp,fun a ha b hb e=>?_⟩;simp at hb;subst hb;obtain⟨z,hz,e2⟩:=List.mem_map.1 ha;obtain⟨k,hk,e3⟩:=List.mem_iff_getElem.1 hz;rw[List.length_take]at hk;rw[List.getElem_take]at e3;exact g3 k z (by omega) (by rw[List.getElem?_eq_getElem (by omega),e3]) (e2.trans e);rcases yD.1 hz with hz |hz;exact hI.len z hz;simp at hz;subst hz;exact h2 rfl;exact absurd rfl (g1 x (zX hx)))
  (fun m _ hd' hI=>by simp only[Q6,hd',zD,Qe];rw[zW (zF _)]at hI;exact⟨0,rfl,fun _=>hI⟩) n 0 () (by omega) (by omega) ⟨by simp,by simp⟩
 rw[zV]at this;exact this
def iU(d:List bA)(s:Str):Prop:=∃x∈d,x.Name=s
theorem Xf(hd:d.length<=1000000)(h:iU d s)(hn:d.length<n):∃(j:Nat)(x:bA),d[j]? = some x/\x.Name=s/\BY n d s=some (j:Int):=by
 rcases GV hd s hn with⟨j,x,h1,h2,_,h4⟩|⟨h1,_⟩;exact⟨j,x,h1,h2,h4⟩;obtain⟨x,hx,e⟩:=h;exact absurd e (h1 x hx)
def DM(d:List bA)(x:bA):Prop:=(∀s∈x.Supers,iU d s)/\x.Supers.Nodup
theorem z56(hd:d.length<=12)(hs:∀x∈d,x.Supers.length<=256)(hn:5000<=n):∃e,On n d=some e/\(e=0->∀x∈d,DM d x):=by
 have:=gS (l:=d) (by omega) (F:=fun m z (_:Unit)=>F8 d n m z) (fun i _=>∀x∈d.take i,DM d x) (Q:=fun e=>e=0->∀x∈d,DM d x)
  (fun m i x _ hx hlt hd' hw hI ih=>by
   have hxm:=zX hx;have hxs:=hs x hxm;simp only[F8,hd',zC,c6,hx,aL];have:=gS (l:=x.Supers) (by omega) (F:=fun m' z (_:Unit)=>QC d n i (F8 d n m) x m' z) (fun k _=>(∀s∈x.Supers.take k,iU d s)/\(x.Supers.take k).Nodup) (Q:=fun e=>e=0->∀x∈d,DM d x)
    (fun m' k s _ hsx oP cK sF gX iT=>by
     simp only[QC,cK,zC,c6,hsx,aL,sF];rcases GV (d:=d) (by omega) s (show d.length<n by omega)with⟨j,y,g1,g2,g3,g4⟩|⟨g1,g2⟩;have hj:¬ (j:Int)<0:=by omega
     have hal:=H2 (l:=x.Supers.take k) (by simp;omega) s (n:=n) (by simp;omega);simp only[g4,aL,hj,yB,zD,Kk (show k<=x.Supers.length by omega),hal];by_cases hm:s∈x.Supers.take k;simp only[hm,yC,zC];exact⟨4,rfl,fun h=>by cases h⟩;simp only[hm,yB,zD];refine iT () ?_;rw[gM hsx];refine⟨fun t ht=>?_,?_⟩;rcases yD.1 ht with ht |ht;exact gX.1 t ht;simp at ht;subst ht;exact⟨y,zX g1,g2⟩;rw[List.nodup_append];exact⟨gX.2,by simp,fun a ha b hb e=>by simp at hb;subst hb;subst e;exact hm ha⟩;simp only[g2,aL];exact⟨5,rfl,fun h=>by cases h⟩)
    (fun m' _ cK gX=>by
     simp only[QC,cK,zD,Rb,hw];rw[zW (zF _)]at gX;refine ih () fun y hy=>?_;rw[gM hx]at hy;rcases yD.1 hy with hy |hy
     exact hI y hy;simp at hy;subst hy;exact gX) n 0 () (by omega) (by omega) ⟨by simp,by simp⟩
   rw[zV]at this;exact this)
  (fun m _ hd' hI=>by simp only[F8,hd',zD,Rc];rw[zW (zF _)]at hI;exact⟨0,rfl,fun _=>hI⟩) n 0 () (by omega) (by omega) (by simp)
 rw[zV]at this;exact this
theorem z7n{x:bA}(hs:x.Supers.length<=256)(hl:l.length<=1000)(hn:5000<=n):Oa n x l=some (decide (∀s∈x.Supers,s∈l)):=by
 have:=gS (l:=x.Supers) (by omega) (F:=fun m z (_:Unit)=>Q5 x l n m z) (fun i _=>∀s∈x.Supers.take i,s∈l) (Q:=fun b=>b=decide (∀s∈x.Supers,s∈l))
  (fun m i s _ hx hlt hd' hw hI ih=>by
   simp only[Q5,hd',zC,c6,hx,aL,hw,H2 (l:=l) (by omega) s (n:=n) (by omega)];by_cases hm:s∈l;simp only[hm,yC,Bool.not_true,zD];refine ih () fun t ht=>?_;rw[gM hx]at ht;rcases yD.1 ht with ht |ht
   exact hI t ht;simp at ht;subst ht;exact hm;simp only[hm,yB,Bool.not_false,zC];exact⟨false,rfl,(decide_eq_false fun h=>hm (h s (zX hx))).symm⟩)
  (fun m _ hd' hI=>by simp only[Q5,hd',zD,Qd];rw[zW (zF _)]at hI;exact⟨true,rfl,(decide_eq_true hI).symm⟩) n 0 () (by omega) (by omega) (by simp)
 rw[zV]at this;obtain⟨r,h1,h2⟩:=this;rw[<-h2];exact h1
inductive Ord(d:List bA):List Str->Prop
 |nil:Ord d []
 |snoc {l:List Str} {x:bA}:Ord d l->x∈d->x.Name ∉ l->(∀s∈x.Supers,s∈l)->Ord d (l++[x.Name])
theorem Ord.nodup(h:Ord d l):l.Nodup/\∀s∈l,iU d s:=by
 induction h with|nil=>simp| @snoc l x h1 h2 h3 h4 ih=>refine⟨?_,fun s hs=>?_⟩;rw[List.nodup_append];exact⟨ih.1,by simp,fun a ha b hb e=>by simp at hb;subst hb;subst e;exact h3 ha⟩;rcases yD.1 hs with hs |hs;exact ih.2 s hs;simp at hs;subst hs;exact⟨x,h2,rfl⟩
theorem Au:∀{a b:List Str},a.Nodup->(∀x∈a,x∈b)->a.length<=b.length
 |[],b,_,_=>by simp
 |x::a,b,hn,hs=>by
  obtain⟨h1,h2⟩:=List.nodup_cons.1 hn;have h3:=Au (b:=b.erase x) h2 fun y hy=>by have:y≠x:=fun e=>h1 (e ▸ hy);exact(List.mem_erase_of_ne this).2 (hs y (List.mem_cons_of_mem x hy))
  have h4:=List.length_erase_of_mem (hs x (by simp));have h5:=List.length_pos_of_mem (hs x (by simp));simp only[zO];omega
theorem Ord.len(h:Ord d l):l.length<=d.length:=by
 have:=Au (b:=d.map bA.Name) h.nodup.1 fun s hs=>by obtain⟨x,hx,rfl⟩:=h.nodup.2 s hs;exact List.mem_map_of_mem hx
 rwa [yA]at this
theorem z3x(hd:d.length<=12)(hs:∀x∈d,x.Supers.length<=256)(hn:5000<=n):∃l,Oo n d=some l/\Ord d l:=by
 have key:∀(m:Nat)(b:Bool)(l:List Str),d.length-l.length+2<=m+(cond b 0 1)->Ord d l->∃r,C2 d n m b l=some r/\Ord d r:=by
  intro m;induction m with
  |zero=>intro b l hm;cases b<;>simp at hm<;>omega|succ m ih=>
   intro b l hm hl;have hll:=hl.len;unfold C2;rcases b with _|_;simp only[zD,Re];exact⟨l,rfl,hl⟩;simp only[zC]at hm ⊢;have:=gS (l:=d) (by omega) (F:=fun m' z (s:Bool×Str)=>F9 d n l (C2 d n m) m' s.1 s.2 z) (fun i s=>s.1=true->∃x∈d,x.Name=s.2/\x.Name ∉ l/\∀t∈x.Supers,t∈l) (Q:=fun r=>Ord d r)
    (fun m' i x s hx hlt hd' hw hI iT=>by
     have hxm:=zX hx;simp only[F9,hd',zC,c6,hx,aL,hw,H2 (l:=l) (by omega) x.Name (n:=n) (by omega),z7n (hs x hxm) (show l.length<=1000 by omega) hn];by_cases h1:x.Name∈l;simp only[h1,yC,zC,aL];exact iT (s.1,s.2) hI;by_cases h2:∀t∈x.Supers,t∈l;have e1:decide (∀t∈x.Supers,t∈l)=true:=decide_eq_true h2;simp only[h1,e1,yB,zD,Bool.not_true,aL,Dz,hw];have hnew:∃y∈d,y.Name=x.Name/\y.Name ∉ l/\∀t∈y.Supers,t∈l:=⟨x,hxm,rfl,h1,h2⟩;cases hb:s.1 with
     |false=>simp only[Bool.not_false,zC,aL];exact iT (true,x.Name) fun _=>hnew
     |true=>
      simp only[Bool.not_true,zD,aL];cases iI x.Name s.2 with
      |true=>simp only[zC];exact iT (true,x.Name) fun _=>hnew
      |false=>simp only[zD];exact iT (true,s.2) fun _=>hI hb
     have e1:decide (∀t∈x.Supers,t∈l)=false:=decide_eq_false h2;simp only[h1,e1,yB,zD,Bool.not_false,aL,zC];exact iT (s.1,s.2) hI)
    (fun m' s hd' hI=>by
     simp only[F9,hd',zD,Rd,Ea];rcases hb:s.1 with _|_;simp only[zD];exact ih false l (by simp;omega) hl;obtain⟨x,hx,e,h1,h2⟩:=hI hb;have hl2:Ord d (l++[s.2]):=by rw[<-e];exact .snoc hl hx h1 h2
     have:=hl2.len;simp only[zU,zO,zS]at this;simp only[zC];rw[dZ (by omega)];exact ih true (l++[s.2]) (by simp;omega) hl2) n 0 (false,[]) (by omega) (by omega) (fun h=>by cases h)
   rw[zV]at this;exact this
 exact key n true [] (by simp;omega) .nil
structure tL(d:List bA):Prop where
 len:d.length<=12
 siz:∀x∈d,x.Supers.length<=256/\x.Feats.length<=256
 nam:ZL d
 sup:∀x∈d,DM d x
 ord:∃l,Ord d l/\l.length=d.length
 one:(d.filter fun x=>decide (x.Supers=[])).length=1
theorem z1j(hd:d.length<=12)(hn:5000<=n):∃e,Ca n d=some e/\(e=0->tL d):=by
 obtain⟨e1,a1,a2⟩:=z7u hd hn;simp only[Ca,a1,aL];by_cases h1:e1=0;subst h1;have a3:=a2 rfl;obtain⟨e2,b1,b2⟩:=z1o hd hn;simp only[bne_self_eq_false,zD,b1,aL];by_cases h2:e2=0;subst h2;obtain⟨e3,c1,c2⟩:=z56 hd (fun x hx=>(a3 x hx).1) hn;simp only[bne_self_eq_false,zD,c1,aL];by_cases h3:e3=0;subst h3;simp only[bne_self_eq_false,zD];have:=gS (l:=d) (by omega) (F:=fun m z (s:Int)=>HP d n m s z) (fun i s=>s=(((d.take i).filter fun x=>decide (x.Supers=[])).length:Int)) (Q:=fun e=>e=0->tL d)
  (fun m i x s hx hlt hd' hw hI ih=>by
   have hfl:=List.length_filter_le (fun x:bA=>decide (x.Supers=[])) (d.take i);rw[List.length_take]at hfl;simp only[HP,hd',zC,c6,hx,aL,Dp,hw];by_cases hz:x.Supers=[];have e0:((x.Supers.length:Int)==0)=true:=by simp[hz]
   have e1:IntKind.i64.wrap (s+1)=s+1:=wr (by omega) (by omega);simp only[e0,zC,e1];refine ih (s+1) ?_;rw[gM hx,List.filter_append,zU,hI];simp[hz];have e0:((x.Supers.length:Int)==0)=false:=by simp[List.length_eq_zero_iff,hz]
   simp only[e0,zD];refine ih s ?_;rw[gM hx,List.filter_append,zU,hI];simp[hz])
  (fun m s hd' hI=>by
   rw[zW (zF _)]at hI;simp only[HP,hd',zD,Qh];by_cases h4:s=1;obtain⟨l,g1,g2⟩:=z3x hd (fun x hx=>(a3 x hx).1) hn;have hl:=g2.len;simp only[h4,bne_self_eq_false,zD,g1,aL];by_cases h5:(l.length:Int)<(d.length:Int);simp only[h5,yC,zC];exact⟨6,rfl,fun h=>by cases h⟩;simp only[h5,yB,zD];exact⟨0,rfl,fun _=>⟨hd,a3,b2 rfl,c2 rfl,⟨l,g2,by omega⟩,by omega⟩⟩;have e4:(s != 1)=true:=by simpa using h4
   simp only[e4,zC];exact⟨1,rfl,fun h=>by cases h⟩) n 0 0 (by omega) (by omega) (by simp)
 rw[zV]at this;exact this;have e4:(e3 != 0)=true:=by simpa using h3
 simp only[e4,zC];exact⟨e3,rfl,fun h=>absurd h h3⟩;have e4:(e2 != 0)=true:=by simpa using h2
 simp only[e4,zC];exact⟨e2,rfl,fun h=>absurd h h2⟩;have e4:(e1 != 0)=true:=by simpa using h1
 simp only[e4,zC];exact⟨e1,rfl,fun h=>absurd h h1⟩
variable{a:Nat}
theorem wu(h:a<18446744073709551616):IntKind.u64.wrap (a:Int)=(a:Int):=by
 simp only[IntKind.wrap,IntKind.bits,IntKind.signed];simp;omega
variable{b:Nat}
theorem IL(ha:a<18446744073709551616)(hb:b<18446744073709551616):yN .u64 (a:Int) (b:Int)=((a&&&b:Nat):Int):=by
 have h:(BitVec.ofInt 64 (a:Int)&&&BitVec.ofInt 64 (b:Int)).toNat=a&&&b:=by simp only[BitVec.ofInt_natCast,BitVec.toNat_and,BitVec.toNat_ofNat];rw[Nat.mod_eq_of_lt ha,Nat.mod_eq_of_lt hb]
 show IntKind.u64.wrap (((BitVec.ofInt 64 (a:Int)&&&BitVec.ofInt 64 (b:Int)).toNat:Nat):Int)=_;rw[h];exact wu (Nat.lt_of_le_of_lt Nat.and_le_left ha)
theorem orN(ha:a<18446744073709551616)(hb:b<18446744073709551616):X7 .u64 (a:Int) (b:Int)=((a|||b:Nat):Int):=by
 have h:(BitVec.ofInt 64 (a:Int)|||BitVec.ofInt 64 (b:Int)).toNat=a|||b:=by simp only[BitVec.ofInt_natCast,BitVec.toNat_or,BitVec.toNat_ofNat];rw[Nat.mod_eq_of_lt ha,Nat.mod_eq_of_lt hb]
 show IntKind.u64.wrap (((BitVec.ofInt 64 (a:Int)|||BitVec.ofInt 64 (b:Int)).toNat:Nat):Int)=_;rw[h];exact wu (Nat.or_lt_two_pow (n:=64) ha hb)
theorem Fd(ha:a<18446744073709551616)(hb:b<18446744073709551616):∃c:Nat,JX .u64 (a:Int) (b:Int)=(c:Int)/\(c=0↔a&&&b=a):=by
 refine⟨(BitVec.ofInt 64 (a:Int) &&& ~~~ BitVec.ofInt 64 (b:Int)).toNat,?_,?_⟩;exact wu (BitVec.isLt _);have h1:(BitVec.ofInt 64 (a:Int)&&&BitVec.ofInt 64 (b:Int)).toNat=a&&&b:=by simp only[BitVec.ofInt_natCast,BitVec.toNat_and,BitVec.toNat_ofNat];rw[Nat.mod_eq_of_lt ha,Nat.mod_eq_of_lt hb]
 have h2:(BitVec.ofInt 64 (a:Int)).toNat=a:=by simp only[BitVec.ofInt_natCast,BitVec.toNat_ofNat];exact Nat.mod_eq_of_lt ha
 generalize BitVec.ofInt 64 (a:Int)=x at*;generalize BitVec.ofInt 64 (b:Int)=y at*;rw[<-h1];constructor;intro h;have h3:x &&& ~~~ y=0#64:=BitVec.eq_of_toNat_eq (by simpa using h);have:x&&&y=x:=by ext i hi;have:=congrArg (fun z=>z.getLsbD i) h3;simp[hi]at this ⊢;intro hx;exact this hx
 rw[this,h2];intro h;have h3:x&&&y=x:=BitVec.eq_of_toNat_eq (by rw[h,h2]);have:x &&& ~~~ y=0#64:=by ext i hi;have:=congrArg (fun z=>z.getLsbD i) h3;simp[hi]at this ⊢;intro hx;exact this hx
 rw[this];rfl
def bt(w:Nat):List Int:=if w=0 then[]else[(w:Int)]
theorem IT:bt 0=[]:=rfl
variable{w:Nat}
theorem oI(h:w≠0):bt w=[(w:Int)]:=if_neg h
theorem z9x:((bt w).length:Int)=0↔w=0:=by
 by_cases h:w=0;simp[h,bt];simp[h,bt]
theorem Uh{w:Nat}{k:Nat}(hk:k<=1000):∀(j m:Nat),j<=k->j+2<=m->KQ ((w:Int)::List.replicate k 0) m ((j+1:Nat):Int)=some (bt w)
 |0,0,_,h=>by omega
 |0,1,_,h=>by omega
 |0,m+2,_,_=>by
  have e0:IntKind.i64.wrap (((0+1:Nat):Int)-1)=0:=wr (z:=0) (by omega) (by omega);have e1:a8 ((w:Int)::List.replicate k 0) 0=some (w:Int):=by simp[a8]
  have e2:decide (((0+1:Nat):Int)>0)=true:=by simp
  have c0:=Kk (l:=(w:Int)::List.replicate k 0) (b:=0) (by simp);have c1:=Kk (l:=(w:Int)::List.replicate k 0) (b:=1) (by simp);rw[zV,List.take_zero]at c0;rw[KQ,e2,e0,zC,e1,aL,aL];by_cases hw:w=0;have:((w:Int)==0)=true:=by simp[hw]
  rw[this,zC,KQ];simp only[Int.lt_irrefl,yB,zD,aL,Eb,c0,show((0:Int)>0)=False by simp];rw[dZ (by simp),hw,IT];have:((w:Int)==0)=false:=by simp[hw]
  rw[this,zD,Eb,show((0+1:Nat):Int)=((1:Nat):Int) by simp,c1,aL,dZ (by simp),oI hw];rfl
 |j+1,m,hj,hm=>by
  obtain⟨m,rfl⟩:∃q,m=q+1:=⟨m-1,by omega⟩;have e0:IntKind.i64.wrap (((j+1+1:Nat):Int)-1)=((j+1:Nat):Int):=yS (by omega) (by omega);have e1:a8 ((w:Int)::List.replicate k 0) ((j+1:Nat):Int)=some 0:=by rw[c6,zH,List.getElem?_replicate,if_pos (by omega)]
  have e2:decide (((j+1+1:Nat):Int)>0)=true:=by simp;omega
  rw[KQ,e2,e0,zC,e1,aL,aL];exact Uh hk j m (by omega) (by omega)
variable{n:Nat}
theorem Lf(hn:5<=n):EV n [(w:Int)]=some (bt w):=Uh (k:=0) (by omega) 0 n (by omega) (by omega)
theorem Lg(hn:5<=n):EV n []=some []:=by
 obtain⟨k,rfl⟩:=Nat.exists_eq_add_of_le' hn;rfl
theorem zar(hn:5<=n):EV n (bt w)=some (bt w):=by
 by_cases h:w=0;subst h;exact Lg hn;rw[oI h,Lf hn,oI h]
theorem Vl(b n:Nat):KB n (bt b) 0=some (b:Int):=by
 by_cases h:b=0;subst h;rfl;rw[oI h];rfl
theorem yf(ha:a<4096)(hb:b<4096)(hn:5<=n):BX n (bt a) (bt b)=some (bt (a&&&b)):=by
 obtain⟨k,rfl⟩:=Nat.exists_eq_add_of_le' hn;by_cases h:a=0;subst h;rw[Nat.zero_and];have:=Lg (n:=k+5) hn;simp only[BX,IT,VU,zS,HB,this,aL];rfl;have h1:=IL (a:=a) (b:=b) (by omega) (by omega);have h2:=Lf (w:=a&&&b) (n:=k+5) hn;have e:BX (k+5) [(a:Int)] (bt b)=a7 (KB (k+5) (bt b) 0) fun dX=>aB ((0+1)*8<=140737488355328/\0+1<=140737488355328) (HB (k+5) [yN .u64 (a:Int) dX]):=rfl;rw[oI h,e,Vl,aL,dZ (by omega),HB,h1,h2];rfl
theorem z77(ha:a<4096)(hb:b<4096)(hn:5<=n):∃c:Nat,VJ n (bt a) (bt b)=some (bt c)/\(c=0↔a&&&b=a):=by
 obtain⟨k,rfl⟩:=Nat.exists_eq_add_of_le' hn;by_cases h:a=0;subst h;have:=Lg (n:=k+5) hn;refine⟨0,?_,by simp⟩;simp only[VJ,IT,Ds,zS,WD,this,aL];rfl;obtain⟨c,h1,h3⟩:=Fd (a:=a) (b:=b) (by omega) (by omega);have h2:=Lf (w:=c) (n:=k+5) hn;have e:VJ (k+5) [(a:Int)] (bt b)=a7 (KB (k+5) (bt b) 0) fun dX=>aB ((0+1)*8<=140737488355328/\0+1<=140737488355328) (WD (k+5) [JX .u64 (a:Int) dX]):=rfl;refine⟨c,?_,h3⟩;rw[oI h,e,Vl,aL,dZ (by omega),WD,h1,h2];rfl
theorem Xq(ha:a<4096)(hb:b<4096)(hn:5<=n):PR n (bt a) (bt b)=some (decide (a&&&b=a)):=by
 obtain⟨c,h1,h2⟩:=z77 ha hb hn;rw[PR,h1,aL];congr 1;rw[Bool.eq_iff_iff,beq_iff_eq,z9x,h2,decide_eq_true_eq]
theorem Ms(ha:a<4096)(hb:b<4096)(hn:5<=n):Cd n (bt a) (bt b)=some (decide (a=b)):=by
 simp only[Cd,Xq ha hb hn,Xq hb ha hn,aL];by_cases h:a&&&b=a;by_cases h':b&&&a=b;have:a=b:=by rw[<-h,Nat.and_comm,h']
 simp[h,h',this,aL];have:a≠b:=fun e=>h' (by rw[<-e,Nat.and_self]);simp[h,h',this,aL];have:a≠b:=fun e=>h (by rw[<-e,Nat.and_self]);simp[h,this,aL]
theorem ve{i:Nat}(hw:w<4096)(hi:i<64):V7 n (bt w) (i:Int)=some (w.testBit i):=by
 have e0:decide ((i:Int)<0)=false:=by simp
 have e1:(i:Int).tdiv 64=0:=by rw[Int.tdiv_eq_ediv_of_nonneg (by omega)];omega
 have e2:IntKind.i64.wrap 0=0:=wr (by omega) (by omega);simp only[V7,e0,zD,aL,e1,e2];by_cases h:w=0;subst h;simp[IT];have e3:decide ((0:Int)>=((bt w).length:Int))=false:=by rw[oI h];simp
 have e4:a8 (bt w) 0=some (w:Int):=by rw[oI h];rfl
 have e5:(i:Int).tmod 64=(i:Int):=by rw[Int.tmod_eq_emod_of_nonneg (by omega)];omega
 have e6:IntKind.u64.wrap (i:Int)=(i:Int):=wu (by omega);have e7:min ((i:Int).toNat) IntKind.u64.bits=i:=by rw[zZ];exact Nat.min_eq_left (by show i<=64;omega)
 have e8:(w:Int).fdiv (2^i)=((w/2^i:Nat):Int):=by rw[show(2:Int)^i=((2^i:Nat):Int) by simp,Int.fdiv_eq_ediv_of_nonneg _ (Int.natCast_nonneg _)];rfl
 have hlt:w/2^i<18446744073709551616:=Nat.lt_of_le_of_lt (Nat.div_le_self _ _) (by omega);have e9:=IL (a:=w/2^i) (b:=1) hlt (by omega);rw[show((1:Nat):Int)=1 from rfl]at e9;simp only[e3,zD,e4,aL,e5,e6];rw[dZ (by omega),e7,e8,e9];congr 1;rw[Bool.eq_iff_iff,beq_iff_eq,Nat.testBit_eq_decide_div_mod_eq,decide_eq_true_eq,Nat.and_one_is_mod];omega
def bl(w:Nat):List Int:=((List.range 64).filter fun i=>w.testBit i).map fun(i:Nat)=>(i:Int)
theorem zaj(hw:w<4096)(hn:100<=n):Nk n (bt w)=some (bl w):=by
 by_cases h:w=0;subst h;obtain⟨k,rfl⟩:=Nat.exists_eq_add_of_le' hn;have e:bl 0=[]:=by simp[bl]
 rw[e];rfl;have mX:IntKind.i64.wrap (64*((bt w).length:Int))=((List.range 64).length:Int):=by rw[oI h,List.length_range];exact wr (by simp) (by simp)
 have:=gS (l:=List.range 64) (by simp) (F:=fun m z s=>HK (bt w) n m z s) (fun i s=>s=(((List.range 64).take i).filter fun i=>w.testBit i).map fun(i:Nat)=>(i:Int)) (Q:=fun r=>r=bl w)
  (fun m i x s hx hlt hd' hw' hI ih=>by
   have hxi:x=i:=by rw[List.getElem?_range (by simpa using hlt)]at hx;exact(Option.some.inj hx).symm
   subst hxi;have hlen:s.length<=64:=by rw[hI,yA];refine Nat.le_trans (List.length_filter_le _ _) ?_;rw[List.length_take,List.length_range];omega
   rw[List.length_range]at hlt;simp only[HK,mX,hd',zC,ve hw hlt,aL,Dc,hw'];cases hb:w.testBit x with
   |true=>simp only[zC];rw[dZ (by omega)];refine ih _ ?_;rw[gM hx,List.filter_append,List.map_append,hI];simp[hb]|false=>simp only[zD];refine ih _ ?_;rw[gM hx,List.filter_append,List.map_append,hI];simp[hb])
  (fun m s hd' hI=>by simp only[HK,mX,hd',zD,Pj];rw[zW (zF _)]at hI;exact⟨s,rfl,hI⟩) n 0 [] (by simp;omega) (by omega) (by simp)
 obtain⟨r,h1,h2⟩:=this;rw[<-h2];rw[zV]at h1;exact h1
theorem bm(hw:w<4096)(hn:100<=n):VK n (bt w)=some ((bl w).length:Int):=by rw[VK,zaj hw hn];rfl
theorem Wp(hn:5<=n):H7 n (bt a) (bt b)=some (decide (a=b)):=by
 obtain⟨k,rfl⟩:=Nat.exists_eq_add_of_le' hn;by_cases ha:a=0;subst ha;by_cases hb:b=0;subst hb;rfl;rw[oI hb];simp[IT,H7,Ne.symm hb];by_cases hb:b=0;subst hb;rw[oI ha];simp[IT,H7,ha];have e:H7 (k+5) [(a:Int)] [(b:Int)]=cond ((a:Int) != (b:Int)) (some false) (some true):=rfl;rw[oI ha,oI hb,e];by_cases h:a=b;subst h;simp;have:((a:Int) != (b:Int))=true:=by simp;omega
 simp[this,h]
theorem Fy{ws:List Nat}(hl:ws.length<=1000)(hn:5000<=n):Mm n (ws.map bt) (bt b)=some (decide (b∈ws)):=by
 have:=gS (l:=ws) (by omega) (F:=fun m z (_:Unit)=>PO (ws.map bt) (bt b) n m z) (fun i _=>b ∉ ws.take i) (Q:=fun r=>r=decide (b∈ws))
  (fun m i x _ hx hlt hd' hw hI ih=>by
   have Gg:(ws.map bt)[i]? = some (bt x):=by rw[List.getElem?_map,hx];rfl
   simp only[PO,yA,hd',zC,c6,Gg,aL,Wp (a:=x) (b:=b) (n:=n) (by omega),hw];by_cases e:x=b;simp only[e,yC,zC];exact⟨true,rfl,(decide_eq_true (e ▸ zX hx)).symm⟩;simp only[e,yB,zD];refine ih () ?_;rw[gM hx];simp[hI,Ne.symm e])
  (fun m _ hd' hI=>by simp only[PO,yA,hd',zD,Nz];rw[zW (zF _)]at hI;exact⟨false,rfl,(decide_eq_false hI).symm⟩) n 0 () (by omega) (by omega) (by simp)
 obtain⟨r,h1,h2⟩:=this;rw[<-h2];rw[zV]at h1;exact h1
def C4(l:List Nat):Nat:=l.foldl (fun w i=>w|||2^i) 0
theorem Tv:∀(l:List Nat)(w:Nat),(∀i∈l,i<12)->w<4096->l.foldl (fun w i=>w|||2^i) w<4096
 |[],w,_,h=>h|i::l,w,hl,h=>Tv l _ (fun j hj=>hl j (by simp[hj])) (Nat.or_lt_two_pow (n:=12) h (Nat.pow_lt_pow_right (by omega) (hl i (by simp))))
theorem kl(j:Nat):∀(l:List Nat)(w:Nat),(l.foldl (fun w i=>w|||2^i) w).testBit j=(w.testBit j||decide (j∈l))
 |[],w=>by simp
 |i::l,w=>by rw[List.foldl_cons,kl j l,Nat.testBit_or,Nat.testBit_two_pow];by_cases e:i=j;subst e;simp;have:¬ j=i:=fun h=>e h.symm;simp[e,this,Bool.or_assoc]
theorem Ey{l:List Nat}(hl:l.length<=12)(dJ:∀i∈l,i<12)(hn:5000<=n):Ab n (l.map fun(i:Nat)=>(i:Int))=some (bt (C4 l),0):=by
 have hrep:List.replicate (64:Int).toNat (0:Int)=((0:Nat):Int)::List.replicate 63 0:=rfl;have:=gS (l:=l) (by omega) (F:=fun m z s=>PP (l.map fun(i:Nat)=>(i:Int)) n m z s) (fun i s=>s=(((l.take i).foldl (fun w i=>w|||2^i) 0:Nat):Int)::List.replicate 63 0) (Q:=fun r=>r=(bt (C4 l),0))
  (fun m i x s hx hlt hd' hw hI ih=>by
   have qz:=dJ x (zX hx);have Gg:(l.map fun(i:Nat)=>(i:Int))[i]? = some (x:Int):=by rw[List.getElem?_map,hx];rfl
   have e1:decide ((x:Int)<0)=false:=by simp
   have e2:decide ((x:Int)>4095)=false:=by simp;omega
   have e3:IntKind.i64.wrap ((x:Int).tdiv 64)=0:=by rw[Int.tdiv_eq_ediv_of_nonneg (by omega),show(x:Int)/64=0 by omega];exact wr (by omega) (by omega)
   have e4:(x:Int).tmod 64=(x:Int):=by rw[Int.tmod_eq_emod_of_nonneg (by omega)];omega
   have e5:IntKind.u64.wrap (x:Int)=(x:Int):=wu (by omega);have e6:min ((x:Int).toNat) IntKind.u64.bits=x:=by rw[zZ];exact Nat.min_eq_left (by show x<=64;omega)
   have hw0:(l.take i).foldl (fun w i=>w|||2^i) 0<4096:=Tv _ 0 (fun j hj=>dJ j (List.mem_of_mem_take hj)) (by omega);have hp:2^x<4096:=Nat.pow_lt_pow_right (n:=12) (by omega) qz;have e7:IntKind.u64.wrap (1*(2^x:Int))=((2^x:Nat):Int):=by rw[Int.one_mul,show(2:Int)^x=((2^x:Nat):Int) by simp];exact wu (by omega)
   have e8:jR s 0 ((64:Int).toNat) 0=some (((l.take i).foldl (fun w i=>w|||2^i) 0:Nat):Int):=by rw[hI];rfl
   have e9:=orN (a:=(l.take i).foldl (fun w i=>w|||2^i) 0) (b:=2^x) (by omega) (by omega);simp only[PP,yA,hd',zC,c6,Gg,aL,e1,e2,zD,e3,e4,e5,e6,e7,e8,e9,hw];rw[dZ (by omega)];refine ih _ ?_;rw[gM hx,List.foldl_append,hI];rfl)
  (fun m s hd' hI=>by
   simp only[PP,yA,hd',zD,Oc];rw[zW (zF _)]at hI;have h1:EV n s=some (bt (C4 l)):=by rw[hI];exact Uh (k:=63) (by omega) 63 n (by omega) (by omega)
   rw[dZ (by rw[hI];rfl),h1];exact⟨_,rfl,rfl⟩) n 0 _ (by omega) (by omega) rfl
 obtain⟨r,h1,h2⟩:=this;rw[zV]at h1;rw[Ab,dZ (by decide),hrep,<-h2];exact h1
inductive lN(d:List bA)(s:Str):Str->Prop
 |refl:lN d s s
 |step {t u:Str} {x:bA}:lN d s t->x∈d->x.Name=t->u∈x.Supers->lN d s u
variable{d:List bA}
variable{s:Str}
theorem lN.trans{t u:Str}(h:lN d s t)(h':lN d t u):lN d s u:=by
 induction h' with|refl=>exact h|step _ h2 h3 h4 ih=>exact .step ih h2 h3 h4
structure WL(d:List bA)(P:Str->Prop)(l:List Str):Prop where
 nod:l.Nodup
 mem:∀s∈l,iU d s/\P s
variable{l:List Str}
theorem WL.len{P:Str->Prop}(h:WL d P l):l.length<=d.length:=by
 have:=Au (b:=d.map bA.Name) h.nod fun s hs=>by obtain⟨x,hx,rfl⟩:=(h.mem s hs).1;exact List.mem_map_of_mem hx
 rwa [yA]at this
theorem WL.snoc{d:List bA}{P:Str->Prop}{l:List Str}(h:WL d P l){s:Str}(hn:s ∉ l)(hs:iU d s/\P s):WL d P (l++[s]):=by
 refine⟨?_,fun t ht=>?_⟩;rw[List.nodup_append];exact⟨h.nod,by simp,fun a ha b hb e=>by simp at hb;subst hb;subst e;exact hn ha⟩;rcases yD.1 ht with ht |ht;exact h.mem t ht;simp at ht;subst ht;exact hs
variable{n:Nat}
theorem lw(hl:l.length<=1000)(hn:5000<=n):(∃out,KM n l n [] 0=some out/\sU [] l out)/\∃out,KN n l n [] 0=some out/\sU [] l out:=by
 constructor;have:=gS (l:=l) (by omega) (F:=fun m z s=>KM n l m s z) (fun i s=>sU [] (l.take i) s) (Q:=fun out=>sU [] l out)
  (fun m i x s hx hlt hd' hw hI ih=>by have hl:=hI.len;simp at hl;obtain⟨o,h1,h2,h3,h4⟩:=UB (l:=s) (by omega) hI.asc x (show s.length<n by omega);simp only[KM,hd',zC,c6,hx,aL,h1,hw];exact ih o (by rw[gM hx];exact hI.next h2 h3 h4))
  (fun m s hd' hI=>by simp only[KM,hd',zD,Qj];rw[zW (zF _)]at hI;exact⟨s,rfl,hI⟩) n 0 [] (by omega) (by omega) (sU.nil List.Pairwise.nil)
 rw[zV]at this;exact this;have:=gS (l:=l) (by omega) (F:=fun m z s=>KN n l m s z) (fun i s=>sU [] (l.take i) s) (Q:=fun out=>sU [] l out)
  (fun m i x s hx hlt hd' hw hI ih=>by have hl:=hI.len;simp at hl;obtain⟨o,h1,h2,h3,h4⟩:=UB (l:=s) (by omega) hI.asc x (show s.length<n by omega);simp only[KN,hd',zC,c6,hx,aL,h1,hw];exact ih o (by rw[gM hx];exact hI.next h2 h3 h4))
  (fun m s hd' hI=>by simp only[KN,hd',zD,Qn];rw[zW (zF _)]at hI;exact⟨s,rfl,hI⟩) n 0 [] (by omega) (by omega) (sU.nil List.Pairwise.nil)
 rw[zV]at this;exact this
theorem z64(h:tL d)(hs:iU d s)(hn:5000<=n):∃l,Cb n d s=some l/\eG l/\l.length<=12/\∀x,x∈l↔iU d x/\lN d x s:=by
 have hd:=h.len;have key:∀(m i:Nat)(l:List Str),d.length+1-i<=m->i<=l.length->WL d (fun x=>lN d x s) l->s∈l->(∀y∈l.take i,∀x∈d,y∈x.Supers->x.Name∈l)->
   ∃r,F5 d n m i l=some r/\eG r/\r.length<=12/\∀x,x∈r↔iU d x/\lN d x s:=by
  intro m;induction m with
  |zero=>intro i l hm hi hw;have:=hw.len;omega|succ m ih=>
   intro i l hm hi hw hsl hcl;have hll:=hw.len;unfold F5;by_cases hlt:i<l.length;obtain⟨y,hy,hym⟩:=dM hlt;simp only[fO hlt,zC];have:=gS (l:=d) (by omega) (F:=fun m' z (l':List Str)=>HQ d n i (F5 d n m) m' z l') (fun k l'=>WL d (fun x=>lN d x s) l'/\(∃t,l'=l++t)/\∀x∈d.take k,y∈x.Supers->x.Name∈l') (Q:=fun r=>eG r/\r.length<=12/\∀x,x∈r↔iU d x/\lN d x s)
    (fun m' k x l' hx oP hd' hw' hI iT=>by
     obtain⟨AD,⟨t,gX⟩,AC⟩:=hI;have hxm:=zX hx;have hl'':=AD.len;have hy':l'[i]? = some y:=by rw[gX,List.getElem?_append_left hlt];exact hy
     have hss:=(h.siz x hxm).1;simp only[HQ,hd',zC,c6,hx,aL,hy',H2 (l:=x.Supers) (by omega) y (n:=n) (by omega),H2 (l:=l') (by omega) x.Name (n:=n) (by omega),Dq,hw'];by_cases h1:y∈x.Supers;by_cases h2:x.Name∈l';simp only[h1,h2,yC,zC,aL,Bool.not_true,zD];refine iT l' ⟨AD,⟨t,gX⟩,fun z hz hyz=>?_⟩;rw[gM hx]at hz;rcases yD.1 hz with hz |hz;exact AC z hz hyz;simp at hz;subst hz;exact h2;simp only[h1,h2,yC,yB,zC,aL,Bool.not_false];rw[dZ (by omega)];have hys:=(hw.mem y hym).2;refine iT (l'++[x.Name]) ⟨AD.snoc h2 ⟨⟨x,hxm,rfl⟩,(lN.step .refl hxm rfl h1).trans hys⟩,⟨t++[x.Name],by rw[gX,zT]⟩,fun z hz hyz=>?_⟩;rw[gM hx]at hz;rcases yD.1 hz with hz |hz;exact List.mem_append_left _ (AC z hz hyz);simp at hz;subst hz;simp;simp only[h1,yB,zD,aL];refine iT l' ⟨AD,⟨t,gX⟩,fun z hz hyz=>?_⟩;rw[gM hx]at hz;rcases yD.1 hz with hz |hz;exact AC z hz hyz;simp at hz;subst hz;exact absurd hyz h1)
    (fun m' l' hd' hI=>by
     obtain⟨AD,⟨t,gX⟩,AC⟩:=hI;rw[zW (zF _)]at AC;simp only[HQ,hd',zD,Qi,gI hlt (show l.length<=9223372036854775807 by omega)];refine ih (i+1) l' (by omega) (by rw[gX];simp;omega) AD (by rw[gX];exact List.mem_append_left _ hsl) fun z hz x hx hzx=>?_;rw[gX,List.take_append_of_le_length (by omega),gM hy]at hz;rcases yD.1 hz with hz |hz
     rw[gX];exact List.mem_append_left _ (hcl z hz x hx hzx);simp at hz;subst hz;exact AC x hx hzx) n 0 l (by omega) (by omega) ⟨hw,⟨[],by simp⟩,by simp⟩
   rw[zV]at this;exact this;have hi':i=l.length:=by omega
   subst hi';rw[zW (zF _)]at hcl;simp only[fX hlt,zD,Qk];obtain⟨out,g1,g2⟩:=(lw (l:=l) (by omega) hn).1;have hlen:=g2.len;simp at hlen;refine⟨out,g1,g2.asc,by omega,fun x=>?_⟩;rw[g2.mem];simp only[List.not_mem_nil,false_or];constructor;exact fun hx=>hw.mem x hx;rintro⟨_,hu⟩;have:∀{t:Str},lN d x t->t∈l->x∈l:=by
    intro t ht;induction ht with
    |refl=>exact id|step _ h2 h3 h4 ih=>exact fun hu=>ih (h3 ▸ hcl _ hu _ h2 h4)
   exact this hu hsl
 obtain⟨j,x,g1,g2,g3⟩:=Xf (d:=d) (by omega) hs (n:=n) (by omega);have hj:¬ (j:Int)<0:=by omega
 simp only[Cb,g3,aL,hj,yB,zD];have:=key n 0 [s] (by omega) (by omega) ⟨by simp,fun t ht=>by simp at ht;subst ht;exact⟨hs,.refl⟩⟩ (by simp) (by simp);rw[zV]at this;exact this
theorem f'(h:ZL d){x y:bA}(hx:x∈d)(hy:y∈d)(e:x.Name=y.Name):x=y:=by
 have:=h.nod;clear h;induction d with
 |nil=>cases hx|cons z d ih=>rw[zQ,List.nodup_cons]at this;rcases zI.1 hx with h1 |h1;rcases zI.1 hy with h2 |h2;rw[h1,h2];exact absurd (List.mem_map.2 ⟨y,h2,by rw[<-e,h1]⟩) this.1;rcases zI.1 hy with h2 |h2;exact absurd (List.mem_map.2 ⟨x,h1,by rw[e,h2]⟩) this.1;exact ih h1 h2 this.2
theorem z5u(h:tL d)(hs:iU d s)(hn:5000<=n):∃l,Cc n d s=some l/\eG l/\l.length<=12/\∀x,x∈l↔iU d x/\lN d s x:=by
 have hd:=h.len;have key:∀(m i:Nat)(l:List Str),d.length+1-i<=m->i<=l.length->WL d (fun x=>lN d s x) l->s∈l->(∀y∈l.take i,∀x∈d,x.Name=y->∀u∈x.Supers,u∈l)->
   ∃r,F6 d n m i l=some r/\eG r/\r.length<=12/\∀x,x∈r↔iU d x/\lN d s x:=by
  intro m;induction m with
  |zero=>intro i l hm hi hw;have:=hw.len;omega|succ m ih=>
   intro i l hm hi hw hsl hcl;have hll:=hw.len;unfold F6;by_cases hlt:i<l.length;obtain⟨y,hy,hym⟩:=dM hlt;obtain⟨j,x,g1,g2,g3⟩:=Xf (d:=d) (by omega) (hw.mem y hym).1 (n:=n) (by omega);have hxm:=zX g1;have hss:=(h.siz x hxm).1;simp only[fO hlt,zC,c6,hy,aL,g3,g1];have:=gS (l:=x.Supers) (by omega) (F:=fun m' z (l':List Str)=>HR n i (F6 d n m) x m' z l') (fun k l'=>WL d (fun x=>lN d s x) l'/\(∃t,l'=l++t)/\∀u∈x.Supers.take k,u∈l') (Q:=fun r=>eG r/\r.length<=12/\∀x,x∈r↔iU d x/\lN d s x)
    (fun m' k u l' hu oP hd' hw' hI iT=>by obtain⟨AD,⟨t,gX⟩,AC⟩:=hI;have hum:=zX hu;have hl'':=AD.len;simp only[HR,hd',zC,c6,hu,aL,H2 (l:=l') (by omega) u (n:=n) (by omega),Dr,hw'];by_cases h2:u∈l';simp only[h2,yC,Bool.not_true,zD];refine iT l' ⟨AD,⟨t,gX⟩,fun z hz=>?_⟩;rw[gM hu]at hz;rcases yD.1 hz with hz |hz;exact AC z hz;simp at hz;subst hz;exact h2;simp only[h2,yB,Bool.not_false,zC];rw[dZ (by omega)];refine iT (l'++[u]) ⟨AD.snoc h2 ⟨(h.sup x hxm).1 u hum,.step (hw.mem y hym).2 hxm g2 hum⟩,⟨t++[u],by rw[gX,zT]⟩,fun z hz=>?_⟩;rw[gM hu]at hz;rcases yD.1 hz with hz |hz;exact List.mem_append_left _ (AC z hz);simp at hz;subst hz;simp)
    (fun m' l' hd' hI=>by
     obtain⟨AD,⟨t,gX⟩,AC⟩:=hI;rw[zW (zF _)]at AC;simp only[HR,hd',zD,Qm,gI hlt (show l.length<=9223372036854775807 by omega)];refine ih (i+1) l' (by omega) (by rw[gX];simp;omega) AD (by rw[gX];exact List.mem_append_left _ hsl) fun z hz w hw' hzw u hu=>?_;rw[gX,List.take_append_of_le_length (by omega),gM hy]at hz;rcases yD.1 hz with hz |hz
     rw[gX];exact List.mem_append_left _ (hcl z hz w hw' hzw u hu);simp at hz;subst hz;have:=f' h.nam hw' hxm (hzw.trans g2.symm);subst this;exact AC u hu) n 0 l (by omega) (by omega) ⟨hw,⟨[],by simp⟩,by simp⟩
   rw[zV]at this;exact this;have hi':i=l.length:=by omega
   subst hi';rw[zW (zF _)]at hcl;simp only[fX hlt,zD,Qo];obtain⟨out,g1,g2⟩:=(lw (l:=l) (by omega) hn).2;have hlen:=g2.len;simp at hlen;refine⟨out,g1,g2.asc,by omega,fun x=>?_⟩;rw[g2.mem];simp only[List.not_mem_nil,false_or];constructor;exact fun hx=>hw.mem x hx;rintro⟨_,hu⟩;clear g1 g2;induction hu with
   |refl=>exact hsl|step h1 h2 h3 h4 ih=>exact hcl _ (ih ⟨_,h2,h3⟩) _ h2 h3 _ h4
 obtain⟨j,x,g1,g2,g3⟩:=Xf (d:=d) (by omega) hs (n:=n) (by omega);have hj:¬ (j:Int)<0:=by omega
 simp only[Cc,g3,aL,hj,yB,zD];have:=key n 0 [s] (by omega) (by omega) ⟨by simp,fun t ht=>by simp at ht;subst ht;exact⟨hs,.refl⟩⟩ (by simp) (by simp);rw[zV]at this;exact this
theorem zbd(h:tL d){a b:Str}(ha:iU d a)(hb:iU d b)(h1:lN d a b)(h2:lN d b a):a=b:=by
 obtain⟨l,hl,hlen⟩:=h.ord;have hall:∀s,iU d s->s∈l:=fun s ⟨x,hx,e⟩=>by
  apply Classical.byContradiction;intro hn;have h3:=Au (a:=s::l) (b:=d.map bA.Name) (List.nodup_cons.2 ⟨hn,hl.nodup.1⟩) fun t ht=>by rcases zI.1 ht with rfl |ht;rw[<-e];exact List.mem_map_of_mem hx;obtain⟨y,hy,rfl⟩:=hl.nodup.2 t ht;exact List.mem_map_of_mem hy
  simp at h3;omega
 have hpre:∀{l:List Str},Ord d l->∀s∈l,∀t,lN d s t->∃l1 l2,l=l1++s::l2/\(t=s\/t∈l1):=by
  intro l hl;induction hl with
  |nil=>intro s hs;cases hs| @snoc l x g1 g2 g3 g4 ih=>
   have hcl:∀s∈l,∀t,lN d s t->t∈l:=fun s hs t ht=>by obtain⟨l1,l2,e1,e2⟩:=ih s hs t ht;rcases e2 with rfl |e2;exact hs;rw[e1];exact List.mem_append_left _ e2
   intro s hs t ht;rcases yD.1 hs with hs |hs;obtain⟨l1,l2,e1,e2⟩:=ih s hs t ht;exact⟨l1,l2++[x.Name],by rw[e1];simp,e2⟩;simp at hs;subst hs;refine⟨l,[],rfl,?_⟩;induction ht with
   |refl=>exact .inl rfl|step _ h2 h3 h4 iT=>rcases iT with e |e;have:=f' h.nam h2 g2 (h3.trans e);subst this;exact .inr (g4 _ h4);exact .inr (hcl _ e _ (.step .refl h2 h3 h4))
 obtain⟨l1,l2,e1,e2⟩:=hpre hl a (hall a ha) b h1;obtain⟨l3,l4,e3,e4⟩:=hpre hl b (hall b hb) a h2;rcases e2 with e2 |e2;exact e2.symm;rcases e4 with e4 |e4;exact e4
 ·-- b ahead of a,and a ahead of b
  have hn:=hl.nodup.1;obtain⟨p,q,e5⟩:=List.append_of_mem e2;rw[e5]at e1;have:l3=p:=by
   have rK:b ∉ p:=fun hp=>by rw[e1]at hn;simp only[zT,List.cons_append]at hn;rw[List.nodup_append]at hn;exact hn.2.2 b hp b (by simp) rfl
   have hb3:b ∉ l3:=fun hp=>by rw[e3,List.nodup_append]at hn;exact hn.2.2 b hp b (by simp) rfl
   rw[e1]at e3;simp only[zT,List.cons_append]at e3;clear e1 hn e5 e4 hl;induction p generalizing l3 with
   |nil=>rcases l3 with _|⟨z,l3⟩;rfl;simp at e3;exact absurd (by rw[e3.1];simp) hb3
   |cons y p ihp=>rcases l3 with _|⟨z,l3⟩;simp at e3;exact absurd (by rw[<-e3.1];simp) rK;simp at e3;rw[<-e3.1,ihp l3 (fun hh=>rK (List.mem_cons_of_mem _ hh)) (fun hh=>hb3 (List.mem_cons_of_mem _ hh)) e3.2]
  rw[this]at e4;rw[e1]at hn;exact absurd rfl ((List.nodup_append.1 hn).2.2 a (List.mem_append_left _ e4) a (by simp))
theorem qvw(h:tL d)(hl:l.length<=1000)(hn:5000<=n):∃out,Qf n d l=some out/\eG out/\out.length<=l.length/\∀x∈out,x∈l/\iU d x:=by
 have hd:=h.len;have:=gS (l:=l) (by omega) (F:=fun m z s=>HW d l n m s z) (fun i s=>eG s/\s.length<=i/\∀x∈s,x∈l/\iU d x) (Q:=fun out=>eG out/\out.length<=l.length/\∀x∈out,x∈l/\iU d x)
  (fun m i x s hx hlt hd' hw hI ih=>by
   obtain⟨i1,i2,i3⟩:=hI;simp only[HW,hd',zC,c6,hx,aL,Ej,hw];rcases GV (d:=d) (by omega) x (show d.length<n by omega)with⟨j,y,g1,g2,g3,g4⟩|⟨g1,g2⟩;obtain⟨o,h1,h2,h3,h4⟩:=UB (l:=s) (by omega) i1 x (show s.length<n by omega);have hj:(j:Int)>=0:=by omega
   simp only[g4,aL,hj,yC,zC,h1];refine ih o ⟨h4,by omega,fun z hz=>?_⟩;rcases(h2 z).1 hz with rfl |hz;exact⟨zX hx,y,zX g1,g2⟩;exact i3 z hz;simp only[g2,aL];exact ih s ⟨i1,by omega,i3⟩)
  (fun m s hd' hI=>by simp only[HW,hd',zD,Rq];exact⟨s,rfl,hI⟩) n 0 [] (by omega) (by omega) ⟨List.Pairwise.nil,by simp,by simp⟩
 rw[zV]at this;exact this
theorem T'(h:tL d)(hl:l.length<=1000)(hn:5000<=n):∃out,W4 n d l=some out/\out.length<=l.length/\∀x∈out,x∈l/\iU d x:=by
 obtain⟨all,a1,a2,a3,a4⟩:=qvw h hl hn;have:=gS (l:=all) (by omega) (F:=fun m z s=>C3 d n all m z s) (fun i s=>s.length<=i/\∀x∈s,x∈l/\iU d x) (Q:=fun out=>out.length<=l.length/\∀x∈out,x∈l/\iU d x)
  (fun m i x s hx hlt hd' hw hI ih=>by
   obtain⟨i2,i3⟩:=hI;have hxm:=a4 x (zX hx);obtain⟨up,u1,u2,u3,u4⟩:=z5u h hxm.2 hn;simp only[C3,hd',zC,c6,hx,aL,u1];have:=gS (l:=all) (by omega) (F:=fun m' z b=>QE n all i s (C3 d n all m) up m' b z) (fun _ _=>True) (Q:=fun out=>out.length<=l.length/\∀x∈out,x∈l/\iU d x)
    (fun m' k y b hy oP cK sF _ iT=>by
     simp only[QE,cK,zC,sF,c6,hy,aL,H2 (l:=up) (by omega) y (n:=n) (by omega)];cases b with
     |true=>rcases((k:Int)==(i:Int))with _|_;exact iT _ trivial;exact iT true trivial
     |false=>exact iT false trivial)
    (fun m' b cK _=>by
     simp only[QE,cK,zD,Rj,Ef,hw,c6,hx,aL];cases b with
     |true=>simp only[zC];rw[dZ (by omega)];refine ih (s++[x]) ⟨by simp;omega,fun z hz=>?_⟩;rcases yD.1 hz with hz |hz;exact i3 z hz;simp at hz;subst hz;exact hxm
     |false=>exact ih s ⟨by omega,i3⟩) n 0 true (by omega) (by omega) trivial
   rw[zV]at this;exact this)
  (fun m s hd' hI=>by simp only[C3,hd',zD,Rk];exact⟨s,rfl,by omega,hI.2⟩) n 0 [] (by omega) (by omega) ⟨by simp,by simp⟩
 rw[zV]at this;rw[W4,a1];exact this
end Go.Proofs
