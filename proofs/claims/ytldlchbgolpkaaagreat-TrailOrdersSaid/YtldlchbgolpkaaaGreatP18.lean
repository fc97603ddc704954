import Derived.Shelf.SlSortCmp.WholeK
import Derived.Test.YtldlchbgolpkaaaGreatP17
set_option linter.all false
namespace Go.Vx
open Go Go.Rx Go.Proofs Go.Sort
def SX{X:Type}(lt:X->X->Bool)(x:X):List X->List X
 |[]=>[x]|y::l=>cond (lt y x) (y::SX lt x l) (x::y::l)
def srt{X:Type}(lt:X->X->Bool):List X->List X
 |[]=>[]|x::l=>SX lt x (srt lt l)
theorem pf{X:Type}(lt:X->X->Bool)(x:X):∀l,(SX lt x l).Perm (x::l)
 |[]=>.refl _|y::l=>by simp only[SX];rcases lt y x with _|_;exact .refl _;exact((pf lt x l).cons y).trans (.swap _ _ _)
theorem qx0{X:Type}(lt:X->X->Bool):∀l,(srt lt l).Perm l
 |[]=>.refl _|x::l=>(pf lt x _).trans ((qx0 lt l).cons x)
def Asc{X:Type}(lt:X->X->Bool)(l:List X):Prop:=l.Pairwise (fun x y=>lt y x=false)
theorem qvr{X:Type}{lt:X->X->Bool}(h:SWO lt)(x:X):∀{l},Asc lt l->Asc lt (SX lt x l)
 |[],_=>by simp[SX,Asc]
 |y::l,ha=>by
  simp only[SX];unfold Asc at ha ⊢;rw[List.pairwise_cons]at ha;cases hy:lt y x with
  |true=>simp only[zC];rw[List.pairwise_cons];refine⟨fun z hz=>?_,qvr h x ha.2⟩;have:=(pf lt x l).mem_iff.1 hz;rcases zI.1 this with rfl |hz;rcases hzy:lt z y with _|_;rfl;have:=h.trans y z y hy hzy;rw[h.irrefl]at this;cases this;exact ha.1 z hz
  |false=>simp only[zD];rw[List.pairwise_cons];refine⟨fun z hz=>?_,List.pairwise_cons.2 ha⟩;rcases zI.1 hz with rfl |hz;exact hy;exact h.ntrans z y x (ha.1 z hz) hy
theorem Y_{X:Type}{lt:X->X->Bool}(h:SWO lt):∀l,Asc lt (srt lt l)
 |[]=>by simp[srt,Asc]
 |x::l=>qvr h x (Y_ h l)
end Go.Vx
namespace Go.Proofs
open Go Go.Rx Go.Vx Go.Shelf Go.Sort
theorem be:∀a b:List UInt8,kO a b=true↔a=b
 |[],[]=>by simp[kO]
 |[],_::_=>by simp[kO]
 |_::_,[]=>by simp[kO]
 |x::a,y::b=>by have h:(x.toNat=y.toNat)↔x=y:=UInt8.toNat_inj;simp only[kO,beq_eq];by_cases e:x=y;subst e;simp[be a b];simp[e,mt h.1 e]
theorem z6i(a b:Nat):Nat.blt a b=true↔a<b:=by
 unfold Nat.blt;rw[Nat.ble_eq];exact Iff.rfl
theorem rL(a b:Nat):Nat.blt a b=decide (a<b):=by
 rw[Bool.eq_iff_iff,z6i];simp
theorem qhs:∀a:List UInt8,jN a a=false
 |[]=>rfl|x::a=>by simp[jN,rL,qhs a]
theorem qix:∀a b c:List UInt8,jN a b=true->jN b c=true->jN a c=true
 |_,[],_,h,_=>by simp[jN]at h
 |_,_::_,[],_,h=>by simp[jN]at h
 |[],_::_,_::_,_,_=>by simp[jN]
 |x::a,y::b,z::c,h1,h2=>by
  simp only[jN,rL,beq_eq]at*;by_cases h:x.toNat<y.toNat;by_cases h':y.toNat<z.toNat;have:x.toNat<z.toNat:=by omega
  simp[this];simp only[h',yB,zD]at h2;by_cases e:y.toNat=z.toNat;have:x.toNat<z.toNat:=by omega
  simp[this];simp[e]at h2;simp only[h,yB,zD]at h1;by_cases e:x.toNat=y.toNat;simp only[e,yC,zC]at h1;by_cases h':y.toNat<z.toNat;simp[e,h'];simp only[h',yB,zD]at h2;by_cases e':y.toNat=z.toNat;simp only[e',yC,zC]at h2;have:=qix a b c h1 h2;simp[e,e',this];simp[e']at h2;simp[e]at h1
theorem qiw:∀a b:List UInt8,jN a b=false->jN b a=false->a=b
 |[],[],_,_=>rfl|[],_::_,h,_=>by simp[jN]at h
 |_::_,[],_,h=>by simp[jN]at h
 |x::a,y::b,h1,h2=>by
  simp only[jN,rL,beq_eq]at*;by_cases h:x.toNat<y.toNat;simp[h]at h1;by_cases h':y.toNat<x.toNat;simp[h']at h2;have e:x.toNat=y.toNat:=by omega
  simp only[e,Nat.lt_irrefl,yB,zD,yC,zC]at h1 h2;rw[qiw a b h1 h2,UInt8.toNat_inj.1 e]
variable{X:Type}
theorem aO{H:Type}(a:X)(k:X->Option H):a8 (some a) k=k a:=rfl
theorem wr{z:Int}(h1 : -9223372036854775808<=z)(h2:z<=9223372036854775807):IntKind.i64.wrap z=z:=wrap_i64 (by omega) (by omega)
variable{i:Nat}
theorem lE{len:Nat}(h:i<len)(hl:len<=9223372036854775807):IntKind.i64.wrap ((i:Int)+1)=((i+1:Nat):Int):=by rw[wr (by omega) (by omega)];simp
theorem FJ{z:Int}{k:Nat}(h:z=k)(h2:k<=9223372036854775807):IntKind.i64.wrap z=(k:Int):=by subst h;exact wr (by omega) (by omega)
variable{l:List X}
theorem fA(h:i<l.length):∃x,l[i]? = some x/\x∈l:=⟨l[i],by simp[h],by simp⟩
variable{x:X}
theorem j5(h:l[i]? = some x):l.take (i+1)=l.take i++[x]:=by rw[List.take_add_one,h];rfl
theorem aX(h:l[i]? = some x):l.drop i=x::l.drop (i+1):=by
 have aG:i<l.length:=(zG.1 h).1;rw[List.drop_eq_getElem_cons aG];congr 1;rw[List.getElem?_eq_getElem aG]at h;exact Option.some.inj h
theorem j6{n:Nat}(h:i<n):decide ((i:Int)<(n:Int))=true:=by simp;omega
theorem jY{n:Nat}(h:¬ i<n):decide ((i:Int)<(n:Int))=false:=by simp;omega
theorem bY(h:¬ i<l.length):l.drop i=[]:=List.drop_eq_nil_of_le (by omega)
structure Cmp{X:Type}(c:X->X->Int):Prop where
 val:∀x y,c x y= -1\/c x y=0\/c x y=1
 anti:∀x y,c y x= - c x y
 trans:∀x y z,c x y<=0->c y z<=0->c x z<=0
variable{c:X->X->Int}
theorem Cmp.self(h:Cmp c)(x:X):c x x=0:=by have:=h.anti x x;omega
variable{y:X}
theorem Cmp.congr(h:Cmp c)(B5:c x y=0)(z:X):c x z=c y z:=by
 have h1:=h.val x z;have h2:=h.val y z;have a1:=h.anti x y;have a2:=h.anti x z;have a3:=h.anti y z;have t1:=h.trans x y z;have t2:=h.trans y x z;have t3:=h.trans z x y;have t4:=h.trans z y x;omega
theorem Cmp.congr'(h:Cmp c)(B5:c x y=0)(z:X):c z x=c z y:=by
 have h1:=h.congr B5 z;have a2:=h.anti x z;have a3:=h.anti y z;omega
theorem Cmp.lt_of(h:Cmp c){z:X}(h1:c x y<0)(h2:c y z<=0):c x z<0:=by
 have t1:=h.trans x y z (by omega) h2;rcases Int.lt_or_eq_of_le t1 with h3 |h3;exact h3;have:=h.congr h3 y;have a3:=h.anti y z;omega
def E8{X:Type}(c d:X->X->Int)(x y:X):Int:=if c x y≠0 then c x y else d x y
theorem Cmp.lex{d:X->X->Int}(hc:Cmp c)(hd:Cmp d):Cmp (E8 c d) where
 val x y:=by unfold E8;split;exact hc.val x y;exact hd.val x y
 anti x y:=by
  unfold E8;have a1:=hc.anti x y;have a2:=hd.anti x y;by_cases h:c x y=0;have:c y x=0:=by omega
  simp[h,this,a2];have:¬ c y x=0:=by omega
  simp[h,this,a1]
 trans x y z h1 h2:=by
  unfold E8 at*;by_cases h:c x y=0;have e:=hc.congr h z;simp only[h,ne_eq,not_true,if_false]at h1;rw[e];by_cases h':c y z=0;simp only[h',ne_eq,not_true,if_false]at h2 ⊢;exact hd.trans x y z h1 h2;simp only[h',ne_eq,not_false_eq_true,if_true]at h2 ⊢;exact h2;simp only[h,ne_eq,not_false_eq_true,if_true]at h1;have vR:c x y<0:=by omega
  by_cases h':c y z=0;have e:=hc.congr' h' x;rw[<-e];simp only[h,ne_eq,not_false_eq_true,if_true];exact h1;simp only[h',ne_eq,not_false_eq_true,if_true]at h2;have:=hc.lt_of vR h2;have cW:¬ c x z=0:=by omega
  simp only[cW,ne_eq,not_false_eq_true,if_true];omega
theorem pe{d:X->X->Int}:E8 c d x y=0↔c x y=0/\d x y=0:=by
 unfold E8;by_cases h:c x y=0<;>simp[h]
theorem Cmp.pull{H:Type}(h:Cmp c)(f:H->X):Cmp (fun x y=>c (f x) (f y)):=⟨fun x y=>h.val _ _,fun x y=>h.anti _ _,fun x y z=>h.trans _ _ _⟩
def o7(a b:Int):Int:=if a<b then -1 else if b<a then 1 else 0
theorem Kn{a b:Int}:o7 a b=0↔a=b:=by
 unfold o7;split;omega;split<;>omega
theorem Cb:Cmp o7 where
  val x y := by unfold o7; split; · simp
                split<;>simp
  anti x y:=by unfold o7;split<;>split<;>(try split)<;>omega
  trans x y z:=by unfold o7;intro h1 h2;split at h1<;>split at h2<;>(try split at h1)<;>(try split at h2)<;>(try split)<;>(try split)<;>omega
theorem z3v(c:X->X->Int)(x y:X):ltOf c x y=true↔c x y<0:=by simp[ltOf]
theorem Cmp.swo(h:Cmp c):SWO (ltOf c) where
 irrefl x:=by have:=h.self x;simp[ltOf,this]
 trans x y z h1 h2:=by rw[z3v]at*;exact h.lt_of h1 (by omega)
 ntrans x y z h1 h2:=by
  have e:∀a b,ltOf c a b=false↔c b a<=0:=fun a b=>by have:=h.anti a b;simp[ltOf];omega
  rw[e]at*;exact h.trans z y x h2 h1
section
variable{X:Type}{c:X->X->Int}
theorem UD(hc:Cmp c)(l:List X):(srt (ltOf c) l).Pairwise (fun x y=>c x y<=0):=by
 have:=Y_ hc.swo l;refine List.Pairwise.imp ?_ this;intro x y h;have:=hc.anti x y;simp[ltOf]at h;omega
end
end Go.Proofs
namespace Go.Vx
open Go Go.Rx
section
variable{K V:Type}[DecidableEq K]
def tU(k:K):List (K×V×Nat)->Option V
 |[]=>none|e::es=>if k=e.1 then some e.2.1 else tU k es
variable{eq:K->K->Bool}(he:∀a b,eq a b=true↔a=b)
include he
omit [DecidableEq K] in
theorem Tv{a b:K}(h:¬ a=b):eq a b=false:=by
 rcases h':eq a b with _|_;rfl;exact absurd ((he a b).1 h') h
theorem sa(k:K):∀(es:List (K×V×Nat))(i:Nat),(xP eq k es i).map (fun x=>x.2.1)=tU k es
 |[],i=>rfl|e::es,i=>by simp only[xP,tU];by_cases h:k=e.1;rw[(he k e.1).2 h,if_pos h];rfl;rw[Tv he h,if_neg h];exact sa k es (i+1)
theorem z3w(m:jB K V)(k:K):FE eq m k=tU k m.es:=sa he k m.es 0
theorem H?(k:K)(v:V):∀{es:List (K×V×Nat)}{i j:Nat}{q:V×Nat},xP eq k es i=some (j,q)->i<=j/\∀x,tU x (xK v es (j-i))=if x=k then some v else tU x es
 |[],i,j,q,h=>by cases h
 |e::es,i,j,q,h=>by simp only[xP]at h;by_cases hk:k=e.1;rw[(he k e.1).2 hk]at h;simp only[zC,zA,zB]at h;obtain⟨rfl,_⟩:=h;refine⟨zF _,fun x=>?_⟩;simp only[Nat.sub_self,xK,tU,hk];split<;>rfl;rw[Tv he hk]at h;simp only[zD]at h;obtain⟨h1,h2⟩:=H? k v h;refine⟨by omega,fun x=>?_⟩;rw[show j-i=(j-(i+1))+1 by omega];simp only[xK,tU,h2];by_cases hx:x=e.1;have:¬ x=k:=fun h=>hk (h ▸ hx);simp[hx];intro h;exact absurd h.symm hk;simp[hx]
omit he [DecidableEq K] in
theorem qwx(v:V):∀(es:List (K×V×Nat))(i:Nat),(xK v es i).map (fun e=>e.1)=es.map (fun e=>e.1)/\(xK v es i).map (fun e=>e.2.2)=es.map (fun e=>e.2.2)
 |[],i=>by simp[xK]
 |e::es,0=>by simp[xK]
 |e::es,i+1=>by simp[xK,qwx v es i]
omit he in
theorem I?(x k:K)(v:V)(b:Nat):∀es:List (K×V×Nat),tU x (es++[(k,v,b)])=if tU x es=none then(if x=k then some v else none)else tU x es
 |[]=>by simp[tU]
 |e::es=>by simp only[List.cons_append,tU];by_cases hx:x=e.1;simp[hx];simp only[hx,if_false];exact I? x k v b es
structure MInv(m:jB K V):Prop where
 keys:(m.es.map (fun e=>e.1)).Nodup
 borns:(m.es.map (fun e=>e.2.2)).Nodup
 lt:∀e∈m.es,e.2.2<m.cl
omit he in
theorem MInv.app{m:jB K V}(h:MInv m){k:K}(hf:tU k m.es=none)(v:V):MInv (⟨m.es++[(k,v,m.cl)],m.cl+1⟩:jB K V):=by
 refine⟨?_,?_,?_⟩;simp only[List.map_append,zQ,List.map_nil];rw[List.nodup_append];refine⟨h.keys,by simp,?_⟩;intro a ha b hb EX;simp only[List.mem_singleton]at hb;subst EX hb;clear h;generalize m.es=es at*;induction es with
 |nil=>simp at ha|cons e es ih=>simp only[tU]at hf;by_cases hx:a=e.1;simp[hx]at hf;simp only[hx,if_false]at hf;simp only[zQ,zI,hx,false_or]at ha;exact ih ha hf
 simp only[List.map_append,zQ,List.map_nil];rw[List.nodup_append];refine⟨h.borns,by simp,?_⟩;intro a ha b hb EX;simp only[List.mem_singleton]at hb;obtain⟨e,he,rfl⟩:=List.mem_map.1 ha;have:=h.lt e he;omega;intro e he;rcases yD.1 he with he |he;have:=h.lt e he;simp only;omega;simp only[List.mem_singleton]at he;subst he;simp
omit he [DecidableEq K] in
theorem MInv.set{m:jB K V}(h:MInv m)(v:V)(i:Nat):MInv (⟨xK v m.es i,m.cl⟩:jB K V):=by
 obtain⟨h1,h2⟩:=qwx v m.es i;refine⟨by simp only[h1];exact h.keys,by simp only[h2];exact h.borns,fun e he=>?_⟩;have:e.2.2∈(xK v m.es i).map (fun e=>e.2.2):=List.mem_map.2 ⟨e,he,rfl⟩;rw[h2]at this;obtain⟨e',g1,g2⟩:=List.mem_map.1 this;have:=h.lt e' g1;simp only at g2 ⊢;omega
theorem TD{m:jB K V}(h:MInv m)(k:K)(v:V):MInv (AP eq m k v)/\∀x,tU x (AP eq m k v).es=if x=k then some v else tU x m.es:=by
 unfold AP;cases hf:xP eq k m.es 0 with
 |none=>
  have hg:tU k m.es=none:=by rw[<-sa he k m.es 0,hf];rfl
  refine⟨h.app hg v,fun x=>?_⟩;simp only[I?];by_cases hx:x=k;simp[hx,hg];simp only[hx,if_false];split<;>simp_all
 |some q=>obtain⟨j,q⟩:=q;have:=(H? he k v hf).2;exact⟨h.set v j,fun x=>by simpa using this x⟩
end
end Go.Vx
namespace Go.Proofs
open Go Go.Rx Go.Vx Go.Shelf Go.Sort
set_option maxRecDepth 10000
def nC{X:Type}(c:X->X->Int):List X->List X->Int
 |[],[]=>0|[],_::_=>-1
 |_::_,[]=>1|x::xs,y::ys=>if c x y≠0 then c x y else nC c xs ys
theorem Cmp.list{X:Type}{c:X->X->Int}(h:Cmp c):Cmp (nC c) where
 val:=by
  intro x;induction x with
  |nil=>intro y;cases y<;>simp[nC]|cons a x ih=>intro y;rcases y with _|⟨b,y⟩;simp[nC];simp only[nC];split;exact h.val a b;exact ih y
 anti:=by
  intro x;induction x with
  |nil=>intro y;cases y<;>simp[nC]|cons a x ih=>
   intro y;rcases y with _|⟨b,y⟩;simp[nC];simp only[nC];have a1:=h.anti a b;have a2:=ih y;by_cases e:c a b=0;have:c b a=0:=by omega
   simp[e,this,a2];have:¬ c b a=0:=by omega
   simp[e,this,a1]
 trans:=by
  intro x;induction x with
  |nil=>intro y z h1 h2;cases z<;>simp[nC]|cons a x ih=>
   intro y z h1 h2;rcases y with _|⟨b,y⟩;simp[nC]at h1;rcases z with _|⟨d,z⟩;simp[nC]at h2;simp only[nC]at*;by_cases e:c a b=0;have e2:=h.congr e d;simp only[e,ne_eq,not_true,if_false]at h1;rw[e2];by_cases e3:c b d=0;simp only[e3,ne_eq,not_true,if_false]at h2 ⊢;exact ih y z h1 h2;simp only[e3,ne_eq,not_false_eq_true,if_true]at h2 ⊢;exact h2;simp only[e,ne_eq,not_false_eq_true,if_true]at h1;have vR:c a b<0:=by omega
   by_cases e3:c b d=0;have e4:=h.congr' e3 a;rw[<-e4];simp only[e,ne_eq,not_false_eq_true,if_true];exact h1;simp only[e3,ne_eq,not_false_eq_true,if_true]at h2;have:=h.lt_of vR h2;have cW:¬ c a d=0:=by omega
   simp only[cW,ne_eq,not_false_eq_true,if_true];omega
theorem pd{X:Type}{c:X->X->Int}:∀{xs ys:List X},(∀x∈xs,∀y,c x y=0->x=y)->nC c xs ys=0->xs=ys
 |[],[],_,_=>rfl|[],_::_,_,h=>by simp[nC]at h
 |_::_,[],_,h=>by simp[nC]at h
 |x::xs,y::ys,hc,h=>by simp only[nC]at h;by_cases e:c x y=0;simp only[e,ne_eq,not_true,if_false]at h;rw[hc x (by simp) y e,pd (fun a ha=>hc a (by simp[ha])) h];simp[e]at h
def NX:aF->aF->Int:=E8 (fun x y=>o7 x.Feat y.Feat) (fun x y=>o7 x.To y.To)
theorem ZW:Cmp NX:=(Cb.pull _).lex (Cb.pull _)
theorem z34{x y:aF}(h:NX x y=0):x=y:=by
 simp only[NX,pe,Kn]at h;cases x;cases y;simp only at h;obtain⟨rfl,rfl⟩:=h;rfl
def SI:aT->aT->Int:=E8 (E8 (fun x y=>o7 x.Typex y.Typex) (fun x y=>o7 x.Arcs.length y.Arcs.length)) (fun x y=>nC NX x.Arcs y.Arcs)
theorem ZT:Cmp SI:=((Cb.pull _).lex (Cb.pull (fun x:aT=>(x.Arcs.length:Int)))).lex (ZW.list.pull _)
theorem z35{x y:aT}(h:SI x y=0):x=y:=by
 simp only[SI,pe,Kn]at h;have:=pd (fun a _ b h=>z34 h) h.2;cases x;cases y;simp only at h this;obtain⟨⟨rfl,_⟩,_⟩:=h;subst this;rfl
def ZV:GFS->GFS->Int:=E8 (fun x y=>o7 x.Nodes.length y.Nodes.length) (fun x y=>nC SI x.Nodes y.Nodes)
theorem ZU:Cmp ZV:=(Cb.pull (fun x:GFS=>(x.Nodes.length:Int))).lex (ZT.list.pull _)
theorem qvc{x y:GFS}:ZV x y=0↔x=y:=⟨fun h=>by
 simp only[ZV,pe,Kn]at h;have:=pd (fun a _ b h=>z35 h) h.2;cases x;cases y;simp only at this;subst this;rfl,fun h=>by subst h;exact ZU.self x⟩
structure cU(f:GFS)(k:Nat):Prop where
 nodes:f.Nodes.length<=k
 arcs:∀x∈f.Nodes,x.Arcs.length<=k
def IQ(l:List aF):List Int:=l.flatMap fun a=>[a.Feat,a.To]
def OS(x:aT):List Int:=[x.Typex,(x.Arcs.length:Int)]++IQ x.Arcs
def FC(f:GFS):List Int:=(f.Nodes.length:Int)::f.Nodes.flatMap OS
theorem sk:∀l:List aF,(IQ l).length=2*l.length
 |[]=>rfl|a::l=>by have:=sk l;simp only[IQ,List.flatMap_cons,zU,zO,zS]at*;omega
theorem s?{x:aT}{i:Int}{rc:Int->List Int->Option (List Int)}(hx:x.Arcs.length<=1000000):∀(m k:Nat)(aY:List Int),x.Arcs.length-k<m->k<=x.Arcs.length->aY.length+2*(x.Arcs.length-k)<=1000000000->
  Dy i rc x m k aY=rc (IntKind.i64.wrap (i+1)) (aY++IQ (x.Arcs.drop k))
 |0,k,aY,hm,_,_=>by omega
 |m+1,k,aY,hm,hk,ha=>by
  unfold Dy;by_cases aG:k<x.Arcs.length;obtain⟨a,h1,_⟩:=fA aG;have hn:(aY.length+2)*8<=140737488355328/\aY.length+2<=140737488355328:=by omega
  simp only[j6 aG,zC,cO,h1,aO,aE,hn,and_self,if_true,lE aG (show x.Arcs.length<=9223372036854775807 by omega)];rw[s? hx m (k+1) _ (by omega) (by omega) (by simp only[zU,zO,zS];omega),aX h1];simp[IQ];simp only[jY aG,zD,zk,bY aG,IQ,List.flatMap_nil,List.append_nil]
theorem t?{f:GFS}{n:Nat}(hf:cU f 1000)(hn:1001<=n):∀(m i:Nat)(aY:List Int),f.Nodes.length-i<m->i<=f.Nodes.length->aY.length+2002*(f.Nodes.length-i)<=900000000->
  MB f n m i aY=some (aY++(f.Nodes.drop i).flatMap OS)
 |0,i,aY,hm,_,_=>by omega
 |m+1,i,aY,hm,hi,ha=>by
  unfold MB;have hl:=hf.nodes;by_cases aG:i<f.Nodes.length;obtain⟨x,hx,fQ⟩:=fA aG;have h2:=hf.arcs x fQ;have hn:(aY.length+2)*8<=140737488355328/\aY.length+2<=140737488355328:=by omega
  have h0:=s? (i:=(i:Int)) (rc:=MB f n m) (x:=x) (by omega) n 0 (aY++[x.Typex,(x.Arcs.length:Int)]) (by omega) (by omega) (by simp only[zU,zO,zS];omega);rw[zV,List.drop_zero]at h0;simp only[j6 aG,zC,cO,hx,aO,aE,hn,and_self,if_true,h0,lE aG (show f.Nodes.length<=9223372036854775807 by omega)];rw[t? hf (by omega) m (i+1) _ (by omega) (by omega) (by simp only[zU,zO,zS,sk];omega),aX hx];simp[OS];simp only[jY aG,zD,zl,bY aG,List.flatMap_nil,List.append_nil]
variable{f:GFS}
variable{n:Nat}
theorem r?(hf:cU f 1000)(hn:1001<=n):Dj n f=some (FC f):=by
 have hl:=hf.nodes;have:=t? hf hn n 0 [(f.Nodes.length:Int)] (by omega) (by omega) (by simp only[zO,zS];omega);rw[zV,List.drop_zero]at this;simp only[Dj,this,FC,List.singleton_append]
def yM:List Int->List Int->Int
 |x::xs,y::ys=>if o7 x y≠0 then o7 x y else yM xs ys|_,_=>0
theorem qwo{l m:List Int}(hl:l.length<=1000000000):∀(n i:Nat),l.length-i<n->i<=l.length->Dz l m n i=some (yM (l.drop i) (m.drop i))
 |0,i,hn,_=>by omega
 |n+1,i,hn,hi=>by unfold Dz;by_cases h1:i<l.length;obtain⟨x,hx,_⟩:=fA h1;by_cases h2:i<m.length;obtain⟨y,hy,_⟩:=fA h2;simp only[j6 h1,j6 h2,zC,aO,cO,hx,hy,lE h1 (show l.length<=9223372036854775807 by omega),aX hx,aX hy,yM,o7];by_cases h3:x<y;simp[h3];by_cases h4:y<x;simp[h3,h4];simp only[h3,h4,yB,zD,if_false,ne_eq,not_true,gt_iff_lt];exact qwo hl n (i+1) (by omega) (by omega);simp only[j6 h1,jY h2,zC,zD,aO,Nd,aX hx,bY h2,yM];simp only[jY h1,zD,aO,Nd,bY h1,yM]
theorem z42{k:Nat}(hf:cU f k):(FC f).length<=1+f.Nodes.length*(2+2*k):=by
 have:∀l:List aT,(∀x∈l,x.Arcs.length<=k)->(l.flatMap OS).length<=l.length*(2+2*k):=by
  intro l;induction l with
  |nil=>intro _;simp|cons x l ih=>
   intro h;have h1:=ih fun y hy=>h y (List.mem_cons_of_mem _ hy);have h2:=h x (by simp);have h3:(l.length+1)*(2+2*k)=l.length*(2+2*k)+(2+2*k):=by rw[Nat.add_mul,Nat.one_mul]
   simp only[List.flatMap_cons,zU,OS,zO,zS,sk];rw[h3];omega
 have:=this f.Nodes hf.arcs;simp only[FC,zO];omega
theorem z1a{g:GFS}(hf:cU f 1000)(hg:cU g 1000)(hn:3000000<=n):Md n f g=some (yM (FC f) (FC g)):=by
 have h1:=z42 hf;have h2:=hf.nodes;have h3:f.Nodes.length*(2+2*1000)<=1000*(2+2*1000):=Nat.mul_le_mul_right _ h2;have:=qwo (l:=FC f) (m:=FC g) (by omega) n 0 (by omega) (by omega);rw[zV,List.drop_zero,List.drop_zero]at this;simp only[Md,r? hf (show 1001<=n by omega),r? hg (show 1001<=n by omega),aO,this]
theorem qsh{c d:List Int}:∀{xs ys:List aF},xs.length=ys.length->yM (IQ xs++c) (IQ ys++d)=if nC NX xs ys≠0 then nC NX xs ys else yM c d
 |[],[],_=>by simp[IQ,nC]
 |[],_::_,h=>by simp at h
 |_::_,[],h=>by simp at h
 |x::xs,y::ys,h=>by simp only[zO,Nat.add_right_cancel_iff]at h;have ih:=qsh (c:=c) (d:=d) h;simp only[IQ,List.flatMap_cons,List.cons_append,List.nil_append,yM,nC]at ih ⊢;rw[ih];unfold NX E8;by_cases e:o7 x.Feat y.Feat=0;by_cases e2:o7 x.To y.To=0<;>simp[e,e2];simp[e]
theorem qp4{c d:List Int}:∀{xs ys:List aT},xs.length=ys.length->yM (xs.flatMap OS++c) (ys.flatMap OS++d)=if nC SI xs ys≠0 then nC SI xs ys else yM c d
 |[],[],_=>by simp[nC]
 |[],_::_,h=>by simp at h
 |_::_,[],h=>by simp at h
 |x::xs,y::ys,h=>by
  simp only[zO,Nat.add_right_cancel_iff]at h;have ih:=qp4 (c:=c) (d:=d) h;simp only[List.flatMap_cons,OS,zT,List.cons_append,List.nil_append,yM,nC];have hN:SI x y=(if(if o7 x.Typex y.Typex≠0 then o7 x.Typex y.Typex else o7 (x.Arcs.length:Int) y.Arcs.length)≠0 then(if o7 x.Typex y.Typex≠0 then o7 x.Typex y.Typex else o7 (x.Arcs.length:Int) y.Arcs.length)else nC NX x.Arcs y.Arcs):=rfl;simp only[hN];by_cases e:o7 x.Typex y.Typex=0;by_cases e2:o7 (x.Arcs.length:Int) y.Arcs.length=0;have hl:x.Arcs.length=y.Arcs.length:=by have:=Kn.1 e2;omega
  simp only[e,e2,ne_eq,not_true,if_false];rw[qsh hl,ih];by_cases e3:nC NX x.Arcs y.Arcs=0<;>simp[e3];simp[e,e2];simp[e]
theorem z6j(f g:GFS):yM (FC f) (FC g)=ZV f g:=by
 simp only[FC,yM,ZV];unfold E8;by_cases e:o7 (f.Nodes.length:Int) g.Nodes.length=0;have hl:f.Nodes.length=g.Nodes.length:=by have:=Kn.1 e;omega
 have:=qp4 (c:=[]) (d:=[]) hl;simp only[List.append_nil,yM]at this;simp only[e,ne_eq,not_true,if_false,this];by_cases e2:nC SI f.Nodes g.Nodes=0<;>simp[e2];simp[e]
theorem qwp{g:GFS}(hf:cU f 1000)(hg:cU g 1000)(hn:3000000<=n):LR n f g=some (ZV f g==0):=by
 simp only[LR,z1a hf hg hn,aO,z6j]
theorem qvx{f:GFS}(hl:f.Nodes.length<=12):∀(m i:Nat),f.Nodes.length-i<m->i<=f.Nodes.length->∃b,Dp f m i=some b/\(b=true->∀x∈f.Nodes.drop i,x.Arcs.length<=12)
 |0,i,hm,_=>by omega
 |m+1,i,hm,hi=>by unfold Dp;by_cases aG:i<f.Nodes.length;obtain⟨x,hx,_⟩:=fA aG;simp only[j6 aG,zC,cO,hx,aO,lE aG (show f.Nodes.length<=9223372036854775807 by omega)];by_cases h:(x.Arcs.length:Int)>12;simp only[h,yC,zC];exact⟨false,rfl,fun h=>by cases h⟩;simp only[h,yB,zD];obtain⟨b,h1,h2⟩:=qvx hl m (i+1) (by omega) (by omega);refine⟨b,h1,fun hb=>?_⟩;rw[aX hx];intro y hy;rcases zI.1 hy with rfl |hy;omega;exact h2 hb y hy;simp only[jY aG,zD,Zq,bY aG];exact⟨true,rfl,fun _ x hx=>by cases hx⟩
theorem z3t(f:GFS)(hn:20<=n):∃b,Ld n f=some b/\(b=true->cU f 12):=by
 unfold Ld;by_cases h:(f.Nodes.length:Int)>12;simp only[h,yC,zC];exact⟨false,rfl,fun h=>by cases h⟩;simp only[h,yB,zD];obtain⟨b,h1,h2⟩:=qvx (f:=f) (by omega) n 0 (by omega) (by omega);rw[zV]at h1;rw[List.drop_zero]at h2;exact⟨b,h1,fun hb=>⟨by omega,h2 hb⟩⟩
theorem cU.up{k k':Nat}(h:cU f k)(hk:k<=k'):cU f k':=⟨by have:=h.nodes;omega,fun x hx=>by have:=h.arcs x hx;omega⟩
def cF(a b:aF):Int:=o7 a.Feat b.Feat
theorem Ud:Cmp cF:=Cb.pull aF.Feat
def vC(l:List aF):List aF:=srt (ltOf cF) l
theorem LN(l:List aF):(vC l).Perm l:=qx0 _ l
def sL(l:List aF):Prop:=l.Pairwise (fun a b=>a.Feat≠b.Feat)
variable{l:List aF}
theorem sL.perm{m:List aF}(h:l.Perm m)(hd:sL l):sL m:=(h.pairwise_iff (fun{a b} h=>Ne.symm h)).1 hd
theorem sL.eq:∀{l:List aF},sL l->∀x∈l,∀y∈l,x.Feat=y.Feat->x=y
 |[],_,x,hx,_,_,_=>by cases hx
 |a::l,h,x,hx,y,hy,e=>by obtain⟨h1,h2⟩:=List.pairwise_cons.1 h;rcases zI.1 hx with e1 |Pr;rcases zI.1 hy with e2 |EU;rw[e1,e2];subst e1;exact absurd e (h1 y EU);rcases zI.1 hy with e2 |EU;subst e2;exact absurd e.symm (h1 x Pr);exact sL.eq h2 x Pr y EU e
def j7(l:List aF):Prop:=l.Pairwise (fun a b=>a.Feat<b.Feat)
theorem Ue{a b:aF}:cF a b<=0↔a.Feat<=b.Feat:=by
 unfold cF o7;by_cases h1:a.Feat<b.Feat;simp[h1];omega;by_cases h2:b.Feat<a.Feat;simp[h1,h2];simp[h1,h2];omega
theorem Bv(h:sL l):j7 (vC l):=by
 have h1:=UD Ud l;have h2:sL (vC l):=h.perm (LN l).symm;refine(List.Pairwise.and h1 h2).imp fun{a b} h=>?_;have:=Ue.1 h.1;have:=h.2;omega
theorem ui:∀{a b:List aF},j7 a->j7 b->a.Perm b->a=b
 |[],b,_,_,h=>(List.nil_perm.1 h).symm|x::a,[],_,_,h=>by have:=h.length_eq;simp at this
 |x::a,y::b,ha,hb,h=>by
  obtain⟨h1,h2⟩:=List.pairwise_cons.1 ha;obtain⟨h3,h4⟩:=List.pairwise_cons.1 hb;have B5:x=y:=by rcases zI.1 (h.mem_iff.1 (List.mem_cons_self))with hx |hx;exact hx;rcases zI.1 (h.mem_iff.2 (List.mem_cons_self))with hy |hy;exact hy.symm;have h5:=h1 y hy;have h6:=h3 x hx;omega
  subst B5;rw[ui h2 h4 (h.cons_inv)]
theorem Z_{m:List aF}(hd:sL l)(h:m.Perm l)(hm:j7 m):vC l=m:=ui (Bv hd) hm ((LN l).trans h.symm)
theorem j7.dis(h:j7 l):sL l:=h.imp fun{a b} h=>by omega
structure rb(x:aT)(N:Nat):Prop where
 ty:0<=x.Typex
 dis:sL x.Arcs
 arc:∀a∈x.Arcs,0<=a.Feat/\0<=a.To/\a.To<N
def AB(f:GFS):Prop:=∀x∈f.Nodes,rb x f.Nodes.length
def nd(f:GFS)(v:Int):aT:=(f.Nodes[v.toNat]?).getD (aT.mk 0 [])
def qH(f:GFS)(v:Int):Prop:=0<=v/\v<f.Nodes.length
variable{f:GFS}
variable{v:Int}
theorem Bf(h:qH f v):aB f.Nodes v=some (nd f v)/\nd f v∈f.Nodes:=by
 have hv:v.toNat<f.Nodes.length:=by have:=h.1;have:=h.2;omega
 have h1:0<=v/\v<(f.Nodes.length:Int):=h;simp[aB,h1,nd,hv]
def lF(f:GFS)(v:Int):List aF:=vC (nd f v).Arcs
theorem EJ{a:aF}:a∈lF f v↔a∈(nd f v).Arcs:=(LN _).mem_iff
def lV(g:List Int->Int->List Int)(o:List Int)(a:aF):List Int:=if a.To∈o then o else g o a.To
def dfs(f:GFS):Nat->List Int->Int->List Int
 |0,o,_=>o|k+1,o,v=>(lF f v).foldl (lV (dfs f k)) (o++[v])
structure Seen(f:GFS)(o:List Int):Prop where
 nd:o.Nodup
 ing:∀v∈o,qH f v
theorem Yo:∀(N:Nat){o:List Int},o.Nodup->(∀v∈o,0<=v/\v<N)->o.length<=N
 |0,o,_,h=>by rcases o with _|⟨v,o⟩;simp;have:=h v (by simp);omega
 |N+1,o,hn,h=>by
  have h1:=Yo N (o:=o.filter (fun v=>v != (N:Int))) (hn.filter _) fun v hv=>by rw[List.mem_filter]at hv;have:=h v hv.1;have h2:=hv.2;simp at h2;omega
  have h2:o.length<=(o.filter (fun v=>v != (N:Int))).length+1:=by
   clear h1 h;induction o with
   |nil=>simp|cons x o ih=>
    obtain⟨h3,h4⟩:=List.nodup_cons.1 hn;have:=ih h4;by_cases e:x=N;subst e;have:o.filter (fun v=>v != (N:Int))=o:=List.filter_eq_self.2 fun v hv=>by simp only[bne_iff_ne,ne_eq];intro e;subst e;exact h3 hv
    simp[this];have e2:(x != (N:Int))=true:=by simpa using e
    rw[List.filter_cons_of_pos (by simpa using e)];simp only[zO];omega
  omega
variable{o:List Int}
theorem Seen.len(h:Seen f o):o.length<=f.Nodes.length:=Yo _ h.nd h.ing
theorem Seen.snoc(h:Seen f o)(hv:qH f v)(hn:v ∉ o):Seen f (o++[v]):=⟨by
 rw[List.nodup_append];refine⟨h.nd,by simp,?_⟩;intro a ha b hb;simp at hb;subst hb;intro e;subst e;exact hn ha,fun u hu=>by
 rcases yD.1 hu with hu |hu;exact h.ing u hu;simp at hu;subst hu;exact hv⟩
theorem Wd{f:GFS}(hg:AB f):∀(k:Nat)(o:List Int)(v:Int),Seen f o->qH f v->v ∉ o->f.Nodes.length-o.length<=k->
  Seen f (dfs f k o v)/\(∃t,dfs f k o v=o++v::t)/\(∀u∈dfs f k o v,u ∉ o->∀a∈(nd f u).Arcs,a.To∈dfs f k o v)/\(∀k',f.Nodes.length-o.length<=k'->dfs f k' o v=dfs f k o v)
 |0,o,v,hs,hv,hn,hk=>by have h1:=(hs.snoc hv hn).len;simp only[zU,zO,zS]at h1;omega
 |k+1,o,v,hs,hv,hn,hk=>by
  have uN:=hs.snoc hv hn;have A4:=uN.len;simp only[zU,zO,zS]at A4;have key:∀(l:List aF),(∀a∈l,qH f a.To)->∀(p:List Int),Seen f p->(∃t,p=o++v::t)->(∀u∈p,u ∉ o->u≠v->∀a∈(nd f u).Arcs,a.To∈p)->
    Seen f (l.foldl (lV (dfs f k)) p)/\(∃t,l.foldl (lV (dfs f k)) p=p++t)/\(∀u∈l.foldl (lV (dfs f k)) p,u ∉ o->u≠v->∀a∈(nd f u).Arcs,a.To∈l.foldl (lV (dfs f k)) p)/\(∀a∈l,a.To∈l.foldl (lV (dfs f k)) p)/\
     (∀k',f.Nodes.length-(o.length+1)<=k'->l.foldl (lV (dfs f k')) p=l.foldl (lV (dfs f k)) p):=by
   intro l;induction l with
   |nil=>intro _ p hp oF fF;exact⟨hp,⟨[],by simp⟩,fF,⟨fun a ha=>(List.not_mem_nil ha).elim,fun _ _=>rfl⟩⟩|cons a l ih=>
    intro hl p hp oF fF;have MY:=hl a (by simp);have A3:=fun b hb=>hl b (List.mem_cons_of_mem a hb);simp only[List.foldl_cons];by_cases hm:a.To∈p;have e:∀k',lV (dfs f k') p a=p:=fun k'=>by simp[lV,hm]
    simp only[e];obtain⟨g1,⟨t,g2⟩,g3,g4,g5⟩:=ih A3 p hp oF fF;refine⟨g1,⟨t,g2⟩,g3,fun b hb=>?_,g5⟩;rcases zI.1 hb with rfl |hb;rw[g2];exact List.mem_append_left _ hm;exact g4 b hb;have e:∀k',lV (dfs f k') p a=dfs f k' p a.To:=fun k'=>by simp[lV,hm]
    obtain⟨t0,oF⟩:=oF;have nF:o.length+1<=p.length:=by rw[oF];simp
    obtain⟨d1,⟨t1,d2⟩,d3,d4⟩:=Wd hg k p a.To hp MY hm (by omega);have nE:∀u∈p,u∈dfs f k p a.To:=fun u hu=>by rw[d2];exact List.mem_append_left _ hu
    obtain⟨g1,⟨t,g2⟩,g3,g4,g5⟩:=ih A3 (dfs f k p a.To) d1 ⟨t0++a.To::t1,by rw[d2,oF];simp⟩ (fun u hu h1 h2 b hb=>by by_cases GX:u∈p;exact nE _ (fF u GX h1 h2 b hb);exact d3 u hu GX b hb);rw[e k];refine⟨g1,⟨a.To::t1++t,by rw[g2,d2];simp⟩,g3,fun b hb=>?_,fun k' wP=>?_⟩;rcases zI.1 hb with rfl |hb;rw[g2,d2];simp;exact g4 b hb;rw[e k',d4 k' (by omega)];exact g5 k' wP
  have MY:∀a∈lF f v,qH f a.To:=fun a ha=>by have h1:=(hg _ (Bf hv).2).arc a (EJ.1 ha);exact⟨h1.2.1,h1.2.2⟩
  obtain⟨g1,⟨t,g2⟩,g3,g4,g5⟩:=key (lF f v) MY (o++[v]) uN ⟨[],rfl⟩ (fun u hu h1 h2=>by rcases yD.1 hu with hu |hu;exact absurd hu h1;simp at hu;exact absurd hu h2);refine⟨g1,⟨t,by show(lF f v).foldl _ _=_;rw[g2];simp⟩,fun u hu h1 a ha=>?_,fun k' wP=>?_⟩;by_cases e:u=v;subst e;exact g4 a (EJ.2 ha);exact g3 u hu h1 e a ha;cases k' with
  |zero=>omega|succ k'=>exact g5 k' (by omega)
def pX(f:GFS)(r:Int):List Int:=dfs f f.Nodes.length [] r
theorem Seen.nil(f:GFS):Seen f []:=⟨List.nodup_nil,fun v hv=>by cases hv⟩
structure SP(f:GFS)(r:Int)(o:List Int):Prop where
 seen:Seen f o
 head:∃t,o=r::t
 clo:∀u∈o,∀a∈(nd f u).Arcs,a.To∈o
theorem PC(hg:AB f){r:Int}(hr:qH f r):SP f r (pX f r)/\∀k,f.Nodes.length<=k->dfs f k [] r=pX f r:=by
 obtain⟨h1,⟨t,h2⟩,h3,h4⟩:=Wd hg f.Nodes.length [] r (Seen.nil f) hr (by simp) (by simp);exact⟨⟨h1,⟨t,by have h5:=h2;rw[List.nil_append]at h5;exact h5⟩,fun u hu=>h3 u hu (by simp)⟩,fun k hk=>h4 k (by simpa using hk)⟩
def mK(o:List Int)(a:aF):aF:=⟨a.Feat,(o.idxOf a.To:Int)⟩
def lY(f:GFS)(o:List Int)(v:Int):aT:=⟨(nd f v).Typex,(lF f v).map (mK o)⟩
def gW(f:GFS)(r:Int):GFS:=⟨(pX f r).map (lY f (pX f r))⟩
structure Rep(w:jB Int Int)(o:List Int):Prop where
 inv:MInv w
 get:∀x,tU x w.es=if x∈o then some (o.idxOf x:Int)else none
theorem Uf(a b:Int):(a==b)=true↔a=b:=by simp
theorem Rep.nil:Rep (E7:jB Int Int) []:=⟨⟨by simp[E7],by simp[E7],by simp[E7]⟩,fun x=>by simp[E7,tU]⟩
theorem Rep.snoc{w:jB Int Int}(h:Rep w o)(hv:v ∉ o):Rep (AP (fun a b=>a==b) w v (o.length:Int)) (o++[v]):=by
 obtain⟨h1,h2⟩:=TD (eq:=fun a b:Int=>a==b) Uf h.inv v (o.length:Int);refine⟨h1,fun x=>?_⟩;rw[h2,h.get];by_cases e:x=v;subst e;simp[List.idxOf_append,hv];by_cases hx:x∈o;simp[e,hx,List.idxOf_append];simp[e,hx]
theorem Rep.mget{w:jB Int Int}(h:Rep w o)(x:Int):FE (fun a b=>a==b) w x=if x∈o then some (o.idxOf x:Int)else none:=by
 rw[z3w (eq:=fun a b:Int=>a==b) Uf,h.get]
theorem rz{X:Type}(a b:List X)(x y:X):(a++x::b).set a.length y=a++y::b:=by simp
def CD(N:Nat)(seen:List Int):List aF->Int
 |[]=>0|a::l=>if a.Feat<0\/a.To<0\/a.To>=(N:Int)then 2 else if a.Feat∈seen then 4 else CD N (a.Feat::seen) l
def DK(N:Nat)(x:aT):Int:=if x.Typex<0 then 2 else CD N [] x.Arcs
theorem qry{N:Nat}:∀{l:List aF}{seen:List Int},CD N seen l=0↔(∀a∈l,0<=a.Feat/\0<=a.To/\a.To<N)/\sL l/\∀a∈l,a.Feat ∉ seen
 |[],seen=>by simp[CD,sL]
 |a::l,seen=>by
  simp only[CD];by_cases h1:a.Feat<0\/a.To<0\/a.To>=(N:Int);simp only[h1,if_true];refine⟨fun h=>absurd h (by decide),fun h=>?_⟩;have:=h.1 a (by simp);omega;by_cases h2:a.Feat∈seen;simp only[h1,h2,if_true,if_false];exact⟨fun h=>absurd h (by decide),fun h=>absurd h2 (h.2.2 a (by simp))⟩;simp only[h1,h2,if_false];rw[qry (l:=l)];unfold sL;rw[List.pairwise_cons];constructor;rintro⟨g1,g2,g3⟩;refine⟨fun b hb=>?_,⟨fun b hb=>?_,g2⟩,fun b hb=>?_⟩;rcases zI.1 hb with rfl |hb;omega;exact g1 b hb;have:=g3 b hb;simp only[zI,not_or]at this;exact fun e=>this.1 e.symm
  rcases zI.1 hb with rfl |hb;exact h2;have:=g3 b hb;simp only[zI,not_or]at this;exact this.2;rintro⟨g1,⟨g2,g3⟩,g4⟩;refine⟨fun b hb=>g1 b (by simp[hb]),g3,fun b hb=>?_⟩;simp only[zI,not_or];exact⟨fun e=>g2 b hb e.symm,g4 b (by simp[hb])⟩
theorem qs1{N:Nat}{x:aT}:DK N x=0↔rb x N:=by
 unfold DK;by_cases h:x.Typex<0;simp only[h,if_true];exact⟨fun h=>absurd h (by decide),fun h'=>by have:=h'.ty;omega⟩;simp only[h,if_false];rw[qry];exact⟨fun⟨h1,h2,_⟩=>⟨by omega,h2,h1⟩,fun h=>⟨h.arc,h.dis,fun _ _=>by simp⟩⟩
def O7(N:Nat):List aT->Int
 |[]=>0|x::l=>if DK N x≠0 then DK N x else O7 N l
theorem qs0{N:Nat}:∀{l:List aT},O7 N l=0↔∀x∈l,rb x N
 |[]=>by simp[O7]
 |x::l=>by simp only[O7];by_cases h:DK N x=0;simp only[h,ne_eq,not_true,if_false,qs0 (l:=l),zI,forall_eq_or_imp,qs1.1 h,true_and];simp only[h,ne_eq,not_false_eq_true,if_true,zI,forall_eq_or_imp,false_iff,not_and];exact fun h2=>absurd (qs1.2 h2) h
def FS(f:GFS):Int:=if f.Nodes.length=0 then 1 else if f.Nodes.length>4096 then 7 else O7 f.Nodes.length f.Nodes
variable{f:GFS}
theorem qrz:FS f=0↔f.Nodes.length≠0/\f.Nodes.length<=4096/\AB f:=by
 unfold FS;by_cases h0:f.Nodes.length=0;simp[h0];by_cases h1:f.Nodes.length>4096;simp[h0,h1];intro _;omega;simp only[h0,h1,if_false,qs0];exact⟨fun h=>⟨by simpa using h0,by omega,h⟩,fun h=>h.2.2⟩
structure oY(f g:GFS)(Z:Int->Int)(S:Int->Prop):Prop where
 clo:∀v,S v->∀a∈lF f v,S a.To
 inj:∀u v,S u->S v->Z u=Z v->u=v
 ty:∀v,S v->(nd g (Z v)).Typex=(nd f v).Typex
 arc:∀v,S v->lF g (Z v)=(lF f v).map fun a=>⟨a.Feat,Z a.To⟩
theorem oY.dfs{f g:GFS}{Z:Int->Int}{S:Int->Prop}(h:oY f g Z S):∀(k:Nat)(o:List Int)(v:Int),S v->(∀u∈o,S u)->dfs g k (o.map Z) (Z v)=(Go.Proofs.dfs f k o v).map Z/\∀u∈Go.Proofs.dfs f k o v,S u
 |0,o,v,hv,ho=>⟨rfl,ho⟩|k+1,o,v,hv,ho=>by
  have key:∀(l:List aF)(p:List Int),(∀a∈l,S a.To)->(∀u∈p,S u)->
    (l.map fun a=>(⟨a.Feat,Z a.To⟩:aF)).foldl (lV (Go.Proofs.dfs g k)) (p.map Z)=(l.foldl (lV (Go.Proofs.dfs f k)) p).map Z/\∀u∈l.foldl (lV (Go.Proofs.dfs f k)) p,S u:=by
   intro l;induction l with
   |nil=>intro p _ hp;exact⟨rfl,hp⟩|cons a l ih=>
    intro p hl hp;have MY:=hl a (by simp);simp only[zQ,List.foldl_cons];have hm:Z a.To∈p.map Z↔a.To∈p:=by rw[List.mem_map];exact⟨fun⟨u,hu,e⟩=>by rw[<-h.inj u a.To (hp u hu) MY e];exact hu,fun hu=>⟨_,hu,rfl⟩⟩
    by_cases i9:a.To∈p;have e1:lV (Go.Proofs.dfs g k) (p.map Z) (⟨a.Feat,Z a.To⟩:aF)=p.map Z:=by simp only[lV,hm.2 i9,if_true]
    have e2:lV (Go.Proofs.dfs f k) p a=p:=by simp only[lV,i9,if_true]
    rw[e1,e2];exact ih p (fun b hb=>hl b (List.mem_cons_of_mem _ hb)) hp;have e1:lV (Go.Proofs.dfs g k) (p.map Z) (⟨a.Feat,Z a.To⟩:aF)=Go.Proofs.dfs g k (p.map Z) (Z a.To):=by simp only[lV,mt hm.1 i9,if_false]
    have e2:lV (Go.Proofs.dfs f k) p a=Go.Proofs.dfs f k p a.To:=by simp only[lV,i9,if_false]
    obtain⟨g1,g2⟩:=oY.dfs h k p a.To MY hp;rw[e1,e2,g1];exact ih _ (fun b hb=>hl b (List.mem_cons_of_mem _ hb)) g2
  have ho1:∀u∈o++[v],S u:=fun u hu=>by rcases yD.1 hu with hu |hu;exact ho u hu;simp at hu;subst hu;exact hv
  have:=key (lF f v) (o++[v]) (h.clo v hv) ho1;refine⟨?_,this.2⟩;show(lF g (Z v)).foldl _ (o.map Z++[Z v])=_;have e:=this.1;simp only[List.map_append,zQ,List.map_nil]at e;rw[h.arc v hv];exact e
theorem qsc{Z:Int->Int}:∀{o:List Int}{x:Int},(∀u∈o,Z u=Z x->u=x)->(o.map Z).idxOf (Z x)=o.idxOf x
 |[],x,_=>rfl|u::o,x,h=>by
  simp only[zQ,List.idxOf_cons];have ih:=qsc (o:=o) (x:=x) fun w hw=>h w (List.mem_cons_of_mem _ hw);by_cases e:u=x;subst e;simp;have e2:¬ Z u=Z x:=fun h2=>e (h u (by simp) h2);have e3:(u==x)=false:=by simpa using e
  have e4:(Z u==Z x)=false:=by simpa using e2
  simp only[e3,e4,zD,ih]
variable{r:Int}
theorem oY.canon{g:GFS}{Z:Int->Int}{S:Int->Prop}(h:oY f g Z S)(hf:AB f)(hg:AB g)(hr:qH f r)(hS:S r)(K0:qH g (Z r)):pX g (Z r)=(pX f r).map Z/\gW g (Z r)=gW f r:=by
 obtain⟨o1,s1⟩:=PC hf hr;obtain⟨o2,s2⟩:=PC hg K0;have h1:=h.dfs (f.Nodes.length+g.Nodes.length) [] r hS (by simp);rw[List.map_nil,s1 _ (by omega),s2 _ (by omega)]at h1;refine⟨h1.1,?_⟩;unfold gW;rw[h1.1,List.map_map];congr 1;refine List.map_congr_left fun v hv=>?_;have ia:=h1.2 v hv;simp only[Function.comp,lY,h.ty v ia,h.arc v ia,List.map_map];congr 1;refine List.map_congr_left fun a ha=>?_;have hSa:=h.clo v ia a ha;simp only[Function.comp,mK];rw[qsc fun u hu e=>h.inj u a.To (h1.2 u hu) hSa e]
theorem a?{l:List aF}(h:j7 l):vC l=l:=Z_ h.dis (List.Perm.refl _) h
theorem pg{o:List Int}{v:Int}(h:v∈o):o[o.idxOf v]? = some v:=by
 have h1:=List.idxOf_lt_length_of_mem h;rw[List.getElem?_eq_getElem h1,List.getElem_idxOf]
structure Us(f:GFS)(r:Int)(c:GFS):Prop where
 len:c.Nodes.length=(pX f r).length
 le:c.Nodes.length<=f.Nodes.length
 pos:0<c.Nodes.length
 ok:AB c
 at_:∀v∈pX f r,nd c ((pX f r).idxOf v:Int)=lY f (pX f r) v
 up:∀x∈c.Nodes,j7 x.Arcs
 sim:oY f c (fun v=>((pX f r).idxOf v:Int)) (fun v=>v∈pX f r)
theorem TE{o:List Int}{l:List aF}(h:j7 l):j7 (l.map (mK o)):=by
 unfold j7 at*;rw[List.pairwise_map];exact h
theorem V?(hf:AB f)(hr:qH f r):Us f r (gW f r):=by
 obtain⟨o1,_⟩:=PC hf hr;have nY:∀v∈pX f r,nd (gW f r) ((pX f r).idxOf v:Int)=lY f (pX f r) v:=fun v hv=>by simp only[nd,gW,zZ,List.getElem?_map,pg hv,zM,Option.getD_some]
 have i9:∀v∈pX f r,qH f v:=o1.seen.ing;have GX:∀v∈pX f r,j7 (lY f (pX f r) v).Arcs:=fun v hv=>TE (Bv (hf _ (Bf (i9 v hv)).2).dis);refine⟨by simp[gW],by simp only[gW,yA];exact o1.seen.len,?_,?_,nY,?_,?_⟩;obtain⟨t,ht⟩:=o1.head;simp[gW,ht];intro x hx;simp only[gW,List.mem_map]at hx;obtain⟨v,hv,rfl⟩:=hx;have hn:=hf _ (Bf (i9 v hv)).2;refine⟨hn.ty,(GX v hv).dis,fun a ha=>?_⟩;simp only[lY,List.mem_map]at ha;obtain⟨b,hb,rfl⟩:=ha;have cQ:=EJ.1 hb;refine⟨(hn.arc b cQ).1,by simp only[mK];omega,?_⟩;have:=List.idxOf_lt_length_of_mem (o1.clo v hv b cQ);simp only[mK,gW,yA];omega;intro x hx;simp only[gW,List.mem_map]at hx;obtain⟨v,hv,rfl⟩:=hx;exact GX v hv;refine⟨fun v hv a ha=>o1.clo v hv a (EJ.1 ha),fun u v hu hv e=>?_,fun v hv=>?_,fun v hv=>?_⟩;have h1:=pg hu;have h2:=pg hv;have e':(pX f r).idxOf u=(pX f r).idxOf v:=Int.ofNat.inj e;rw[e',h2]at h1;exact(Option.some.inj h1).symm;simp only[nY v hv,lY];simp only[lF,nY v hv];rw[a? (GX v hv)];rfl
theorem cU.canon{k:Nat}(hs:cU f k)(hf:AB f)(hr:qH f r):cU (gW f r) k:=by
 have hc:=V? hf hr;obtain⟨o1,_⟩:=PC hf hr;refine⟨Nat.le_trans hc.le hs.nodes,fun x hx=>?_⟩;simp only[gW,List.mem_map]at hx;obtain⟨v,hv,rfl⟩:=hx;simp only[lY,yA,lF];rw[(LN _).length_eq];exact hs.arcs _ (Bf (o1.seen.ing v hv)).2
theorem qp0{N:Nat}:∀{l:List aF}{s s':List Int},(∀x,x∈s↔x∈s')->CD N s l=CD N s' l
 |[],s,s',_=>rfl|a::l,s,s',h=>by simp only[CD];rw[qp0 (l:=l) (s:=a.Feat::s) (s':=a.Feat::s') fun x=>by simp only[zI,h x]];by_cases h1:a.Feat∈s;simp only[h1,(h _).1 h1,if_true];simp only[h1,mt (h _).2 h1,if_false]
theorem Y?{l:List aF}(hl:l.length<=1000000){i:Nat}{x:aF}(hx:l[i]? = some x)(hi:i<l.length){rc:Int->Option Int}:∀(m k:Nat),i-k<m->k<=i->
  Dl l i rc m k=if x.Feat∈((l.take i).drop k).map aF.Feat then some 4 else rc (IntKind.i64.wrap ((i:Int)+1))
 |0,k,hm,_=>by omega
 |m+1,k,hm,hk=>by
  unfold Dl;by_cases aG:k<i;obtain⟨y,hy,_⟩:=fA (l:=l) (i:=k) (by omega);have EU:(l.take i)[k]? = some y:=by rw[List.getElem?_take_of_lt aG];exact hy
  have hd:decide ((k:Int)<(i:Int))=true:=j6 aG;have hw:IntKind.i64.wrap ((k:Int)+1)=((k+1:Nat):Int):=FJ (by omega) (by omega);simp only[hd,zC,cO,hy,hx,aO,aX EU,zQ,zI,hw];by_cases e:y.Feat=x.Feat;simp[e];have e2:(y.Feat==x.Feat)=false:=by simpa using e
  have e3:¬ x.Feat=y.Feat:=fun h=>e h.symm;simp only[e2,zD,e3,false_or];exact Y? hl hx hi m (k+1) (by omega) (by omega);have hd:decide ((k:Int)<(i:Int))=false:=jY aG;have:(l.take i).drop k=[]:=List.drop_eq_nil_of_le (by simp;omega);simp only[hd,zD,Zb,this,List.map_nil,List.not_mem_nil,if_false]
theorem Z?{l:List aF}{N n:Nat}(hl:l.length<=1000000)(hn:l.length<n):∀(m i:Nat),l.length-i<m->i<=l.length->LW l N n m i=some (CD N ((l.take i).map aF.Feat) (l.drop i))
 |0,i,hm,_=>by omega
 |m+1,i,hm,hi=>by
  unfold LW;by_cases aG:i<l.length;obtain⟨a,ha,_⟩:=fA aG;have h2:=Y? hl ha aG (rc:=LW l N n m) n 0 (by omega) (by omega);rw[zV,List.drop_zero]at h2;simp only[j6 aG,zC,cO,ha,aO,aX ha,CD];by_cases h1:a.Feat<0;simp[h1,aO];by_cases h3:a.To<0;simp[h1,h3,aO];by_cases h4:a.To>=(N:Int);simp[h1,h3,h4,aO];simp only[h1,h3,h4,yB,zD,aO,or_self,if_false,h2,lE aG (show l.length<=9223372036854775807 by omega)];rw[Z? hl hn m (i+1) (by omega) (by omega),j5 ha];by_cases h5:a.Feat∈(l.take i).map aF.Feat;simp only[h5,if_true];simp only[h5,if_false];congr 1;exact qp0 fun x=>by simp[or_comm]
  simp only[jY aG,zD,Zc,bY aG,CD]
theorem O?{f:GFS}{k:Nat}(hf:cU f k)(hk:k<=1000000){n:Nat}(hn:k<n):∀(m i:Nat),f.Nodes.length-i<m->i<=f.Nodes.length->Dk f n m i=some (O7 f.Nodes.length (f.Nodes.drop i))
 |0,i,hm,_=>by omega
 |m+1,i,hm,hi=>by
  have uQ:=hf.nodes;unfold Dk;by_cases aG:i<f.Nodes.length;obtain⟨x,hx,fQ⟩:=fA aG;have A6:=hf.arcs x fQ;have h2:=Z? (l:=x.Arcs) (N:=f.Nodes.length) (n:=n) (by omega) (by omega) n 0 (by omega) (by omega);rw[zV,List.drop_zero,List.take_zero,List.map_nil]at h2;simp only[j6 aG,zC,cO,hx,aO,aX hx,O7,DK,Xx,h2,lE aG (show f.Nodes.length<=9223372036854775807 by omega)];by_cases h1:x.Typex<0;simp[h1];simp only[h1,yB,zD,if_false];by_cases h3:CD f.Nodes.length [] x.Arcs=0;simp only[h3,bne_self_eq_false,zD,ne_eq,not_true,if_false];exact O? hf hk hn m (i+1) (by omega) (by omega);have hb:(CD f.Nodes.length [] x.Arcs != 0)=true:=by simpa using h3
  simp only[hb,zC,h3,ne_eq,not_false_eq_true,if_true];simp only[jY aG,zD,Za,bY aG,O7]
variable{f:GFS}
variable{k:Nat}
variable{n:Nat}
theorem z6x(hf:cU f k)(hk:k<=1000000)(hn:k<n):Kq n f=some (FS f):=by
 have uQ:=hf.nodes;unfold Kq FS;by_cases h0:f.Nodes.length=0;simp[h0];have e0:((f.Nodes.length:Int)==0)=false:=by simp;intro h;simp[h]at h0
 simp only[e0,zD,h0,if_false];by_cases h1:f.Nodes.length>4096;have:(f.Nodes.length:Int)>4096:=by omega
 simp[h1,this];have:¬ (f.Nodes.length:Int)>4096:=by omega
 simp only[h1,this,yB,zD,if_false];have h:=O? hf hk hn n 0 (by omega) (by omega);rw[zV,List.drop_zero]at h;exact h
theorem q_{l:List aF}{i:Nat}{x:aF}(hx:l[i]? = some x){out:List aF}(H5:out.length<=1000000)(GX:j7 out){rc:Int->List aF->Option (List aF)}:∀(m p:Nat),p<m->p<=out.length->(∀a∈out.drop p,x.Feat<a.Feat)->
  ∃q,q<=out.length/\Dv l i out rc m p=Dw l i out rc (q:Int)/\(∀a∈out.drop q,x.Feat<a.Feat)/\(∀a∈out.take q,a.Feat<=x.Feat)
 |0,p,hm,_,_=>by omega
 |m+1,p,hm,hp,hd=>by
  unfold Dv;cases p with
  |zero=>
   have:¬ ((0:Nat):Int)>0:=by omega
   simp only[this,yB,zD,aO];exact⟨0,by omega,rfl,hd,by simp⟩
  |succ p=>
   have h0:((p+1:Nat):Int)>0:=by omega
   have hw:IntKind.i64.wrap (((p+1:Nat):Int)-1)=(p:Int):=FJ (by omega) (by omega);obtain⟨y,hy,_⟩:=fA (l:=out) (i:=p) (by omega);simp only[h0,yC,zC,hw,cO,hy,hx,aO];by_cases e:y.Feat>x.Feat;simp only[e,yC,zC];refine q_ hx H5 GX m p (by omega) (by omega) fun a ha=>?_;rw[aX hy]at ha;rcases zI.1 ha with rfl |ha
   omega;exact hd a ha;simp only[e,yB,zD];refine⟨p+1,hp,rfl,hd,fun a ha=>?_⟩;obtain⟨j,hj,rfl⟩:=List.mem_iff_getElem.1 ha;simp only[List.length_take]at hj;rw[List.getElem_take];obtain⟨jd,ey⟩:=zG.1 hy;by_cases ej:j=p;subst ej;rw[ey];omega;have:=List.pairwise_iff_getElem.1 GX j p (by omega) jd (by omega);rw[ey]at this;omega
theorem XO{l:List aF}{i:Nat}{x:aF}(hx:l[i]? = some x){out:List aF}(H5:out.length<=1000000){rc:Int->List aF->Option (List aF)}{q:Nat}(hq:q<=out.length):
  Dw l i out rc (q:Int)=rc (IntKind.i64.wrap ((i:Int)+1)) (out.take q++x::out.drop q):=by
 have e1:(out.drop 0).take ((q:Int)).toNat=out.take q:=by rw[List.drop_zero,zZ]
 have e2:(out.drop (0+((q:Int)).toNat)).take (out.length-((q:Int)).toNat)=out.drop q:=by rw[zZ,Nat.zero_add,zW (by simp)]
 have l1:(out.take q).length=q:=by simp;omega
 have n1:(0:Int)<=(q:Int)/\(q:Int)<=((out.length:Nat):Int):=by omega
 have n2:0+((q:Int)).toNat<=out.length:=by rw[zZ];omega
 have n3:(out.take q).length*16<=140737488355328/\(out.take q).length<=140737488355328:=by omega
 have n4:((out.take q).length+1)*16<=140737488355328/\(out.take q).length+1<=140737488355328:=by omega
 have n5:(0+((q:Int)).toNat)+(out.length-((q:Int)).toNat)<=out.length:=by rw[zZ];omega
 have n6:((out.take q++[x]).length+(out.drop q).length)*16<=140737488355328/\(out.take q++[x]).length+(out.drop q).length<=140737488355328:=by simp;omega
 unfold Dw;simp only[aE,e1,e2,cO,hx,aO];rw[if_pos n1,if_pos n2,if_pos n3,if_pos n4,if_pos n1,if_pos n5,if_pos n6];simp
theorem r_{l:List aF}(hl:l.length<=1000000)(hd:sL l){n:Nat}(hn:l.length<n):∀(m i:Nat),l.length-i<m->i<=l.length->M9 l n m i (vC (l.take i))=some (vC l)
 |0,i,hm,_=>by omega
 |m+1,i,hm,hi=>by
  have hdi:sL (l.take i):=hd.sublist (List.take_sublist i l);have H5:(vC (l.take i)).length=i:=by rw[(LN _).length_eq];simp;omega
  unfold M9;by_cases aG:i<l.length;obtain⟨x,hx,_⟩:=fA aG;obtain⟨q,q1,q2,q3,q4⟩:=q_ hx (out:=vC (l.take i)) (by omega) (Bv hdi) (rc:=M9 l n m) n (vC (l.take i)).length (by omega) (zF _) (by simp);simp only[j6 aG,zC,q2,XO hx (show(vC (l.take i)).length<=1000000 by omega) q1,lE aG (show l.length<=9223372036854775807 by omega)];have YJ:sL (l.take (i+1)):=hd.sublist (List.take_sublist _ l);have Qg:((vC (l.take i)).take q++x::(vC (l.take i)).drop q).Perm (l.take (i+1)):=by rw[j5 hx];refine List.perm_middle.trans ?_;rw[List.take_append_drop];exact((LN (l.take i)).cons x).trans (List.perm_append_comm (l₁:=[x]) (l₂:=l.take i))
  have cW:∀a∈vC (l.take i),a.Feat≠x.Feat:=fun a ha e=>by rw[j5 hx]at YJ;have:=(List.pairwise_append.1 YJ).2.2 a ((LN _).mem_iff.1 ha) x (by simp);exact this e
  have GX:j7 ((vC (l.take i)).take q++x::(vC (l.take i)).drop q):=by have h0:=Bv hdi;unfold j7 at*;rw[List.pairwise_append];refine⟨h0.sublist (List.take_sublist _ _),List.pairwise_cons.2 ⟨q3,h0.sublist (List.drop_sublist _ _)⟩,fun a ha b hb=>?_⟩;have h1:=q4 a ha;have h2:=cW a (List.mem_of_mem_take ha);rcases zI.1 hb with rfl |hb;omega;have:=q3 b hb;omega
  rw[<-Z_ YJ Qg GX];exact r_ hl hd hn m (i+1) (by omega) (by omega);simp only[jY aG,zD,qx];rw[zW (by omega)]
theorem qll{l:List aF}(hl:l.length<=1000000)(hd:sL l)(hn:l.length<n):Lt n l=some (vC l):=by
 have h:=r_ hl hd hn n 0 (by omega) (by omega);rw[zV,List.take_zero]at h;exact h
structure IS(f:GFS)(w:List Int)(o:List Int):Prop where
 len:w.length=f.Nodes.length
 get:∀x,qH f x->aB w x=some (if x∈o then(o.idxOf x:Int)else -1)
theorem IS.snoc{w o:List Int}(h:IS f w o){v:Int}(hv:qH f v)(hn:v ∉ o):IS f (w.set (0+v.toNat) (o.length:Int)) (o++[v]):=by
 refine⟨by simp[h.len],fun x hx=>?_⟩;have sZ:v.toNat<w.length:=by rw[h.len];have:=hv.1;have:=hv.2;omega
 have hc:0<=x/\x<((w.set (0+v.toNat) (o.length:Int)).length:Int):=by rw[List.length_set,h.len];exact hx
 have h2:=h.get x hx;have y6:0<=x/\x<(w.length:Int):=by rw[h.len];exact hx
 rw[aB,if_pos y6]at h2;rw[aB,if_pos hc,Nat.zero_add];by_cases e:x=v;subst e;simp[List.idxOf_append,hn,sZ];rw[List.getElem?_set_ne (by have:=hx.1;have:=hv.1;omega),h2];by_cases XW:x∈o;simp[XW,List.idxOf_append];simp[XW,e]
theorem qtf{f:GFS}{k:Nat}(hg:AB f)(hf:cU f k)(hk:k<=1000000):∀(n:Nat)(o:List Int)(v:Int)(w:List Int),Seen f o->qH f v->v ∉ o->IS f w o->f.Nodes.length-o.length+k+2<=n->
  ∃w',MF n v f.Nodes w o=some (w',dfs f n o v)/\IS f w' (dfs f n o v)
 |0,o,v,w,hs,hv,hn,hw,jm=>by omega
 |n+1,o,v,w,hs,hv,hn,hw,jm=>by
  have uN:=hs.snoc hv hn;have A4:=uN.len;simp only[zU,zO,zS]at A4;obtain⟨hx,fQ⟩:=Bf hv;have hJ:=hg _ fQ;have A6:=hf.arcs _ fQ;have uQ:=hf.nodes;have vN:(lF f v).length=(nd f v).Arcs.length:=(LN _).length_eq;have key:∀(m i:Nat)(p:List Int)(w:List Int),(lF f v).length-i<m->i<=(lF f v).length->Seen f p->o.length+1<=p.length->IS f w p->
    ∃w',Q6 f.Nodes (lF f v) (MF n) m i w p=some (w',((lF f v).drop i).foldl (lV (dfs f n)) p)/\IS f w' (((lF f v).drop i).foldl (lV (dfs f n)) p):=by
   intro m;induction m with
   |zero=>intro i p w hm;omega|succ m ih=>
    intro i p w hm hi hp nF hw;unfold Q6;by_cases aG:i<(lF f v).length;obtain⟨a,ha,vO⟩:=fA aG;have h1:=hJ.arc a (EJ.1 vO);have de:qH f a.To:=⟨h1.2.1,h1.2.2⟩;have xw:IntKind.i64.wrap ((i:Int)+1)=((i+1:Nat):Int):=lE aG (by omega);simp only[j6 aG,zC,cO,ha,aO,hw.get _ de,aX ha,List.foldl_cons];by_cases xZ:a.To∈p;have H8:¬ ((p.idxOf a.To:Nat):Int)<0:=by omega
    simp only[xZ,if_true,H8,yB,zD,Ej,xw,lV];exact ih (i+1) p w (by omega) (by omega) hp nF hw;have H8:(-1:Int)<0:=by decide
    simp only[xZ,if_false,H8,yC,zC,Ej,xw,lV];obtain⟨w1,g1,g2⟩:=qtf hg hf hk n p a.To w hp de xZ hw (by omega);obtain⟨d1,⟨t,d2⟩,_,_⟩:=Wd hg n p a.To hp de xZ (by omega);simp only[g1,aO];exact ih (i+1) _ w1 (by omega) (by omega) d1 (by rw[d2];simp;omega) g2;rw[bY aG];simp only[jY aG,zD,wx,List.foldl_nil];exact⟨w,rfl,hw⟩
  have wN:(o.length+1)*8<=140737488355328/\o.length+1<=140737488355328:=by omega
  obtain⟨w',g1,g2⟩:=key n 0 (o++[v]) _ (by omega) (by omega) uN (by simp) (hw.snoc hv hn);rw[zV,List.drop_zero]at g1;rw[List.drop_zero]at g2;refine⟨w',?_,g2⟩;show wn n (MF n) v f.Nodes w o=_;simp only[wn,hw.get _ hv,aE,wN,and_self,if_true,hx,aO,qll (show(nd f v).Arcs.length<=1000000 by omega) hJ.dis (show(nd f v).Arcs.length<n by omega)];exact g1
theorem J?{f:GFS}{o w:List Int}{z:Int}{l27:List aT}{rc:Int->List aT->Option GFS}{x:aT}{l:List aF}(hl:l.length<=1000000)(hw:IS f w o)(i9:∀a∈l,a.To∈o)(Qt:∀v∈o,qH f v):∀(m i:Nat),l.length-i<m->i<=l.length->
  VS (w,o) z l27 rc x m i ((l.take i).map (mK o)++l.drop i)=Ma z l27 rc x (l.map (mK o))
 |0,i,hm,_=>by omega
 |m+1,i,hm,hi=>by
  unfold VS;have aU:((l.take i).map (mK o)++l.drop i).length=l.length:=by simp;omega
  rw[aU];by_cases aG:i<l.length;obtain⟨a,ha,vO⟩:=fA aG;have e1:(((l.take i).map (mK o)++l.drop i))[i]? = some a:=by rw[List.getElem?_append_right (by simp;omega)];simp[show min i l.length=i by omega,ha]
  have e2:(((l.take i).map (mK o)++l.drop i)).set (0+(i:Int).toNat) (mK o a)=(l.take (i+1)).map (mK o)++l.drop (i+1):=by
   rw[aX ha,j5 ha];have h3:((l.take i).map (mK o)).length=i:=by simp;omega
   have:=rz ((l.take i).map (mK o)) (l.drop (i+1)) a (mK o a);rw[h3]at this;rw[Nat.zero_add,zZ,this,List.map_append,zQ,List.map_nil,zT];rfl
  have lK:=i9 a vO;have e3:(⟨a.Feat,(o.idxOf a.To:Int)⟩:aF)=mK o a:=rfl;simp only[j6 aG,zC,cO,e1,aO,hw.get _ (Qt _ lK),lK,if_true,e3,e2,lE aG (show l.length<=9223372036854775807 by omega)];exact J? hl hw i9 Qt m (i+1) (by omega) (by omega);simp only[jY aG,zD];rw[zW (by omega),List.drop_eq_nil_of_le (by omega),List.append_nil]
theorem K?{f:GFS}{k:Nat}(hg:AB f)(hf:cU f k)(hk:k<=1000000){n:Nat}(hn:k+2<=n){r:Int}{o w:List Int}(ho:SP f r o)(hw:IS f w o):∀(m i:Nat),o.length-i<m->i<=o.length->
  LX f n (w,o) m i ((o.take i).map (lY f o))=some ⟨o.map (lY f o)⟩
 |0,i,hm,_=>by omega
 |m+1,i,hm,hi=>by
  have H5:=ho.seen.len;have uQ:=hf.nodes;unfold LX;by_cases aG:i<o.length;obtain⟨v,hv,hvm⟩:=fA aG;obtain⟨hx,fQ⟩:=Bf (ho.seen.ing v hvm);have hJ:=hg _ fQ;have A6:=hf.arcs _ fQ;have vN:(lF f v).length=(nd f v).Arcs.length:=(LN _).length_eq;have h2:=J? (z:=(i:Int)) (l27:=(o.take i).map (lY f o)) (rc:=LX f n (w,o) m) (x:=nd f v) (l:=lF f v) (by omega) hw (fun a ha=>ho.clo v hvm a (EJ.1 ha)) ho.seen.ing n 0 (by omega) (by omega);rw[zV,List.take_zero,List.map_nil,List.nil_append,List.drop_zero]at h2;have wN:(((o.take i).map (lY f o)).length+1)*32<=140737488355328/\((o.take i).map (lY f o)).length+1<=140737488355328:=by simp;omega
  have hso:=qll (show(nd f v).Arcs.length<=1000000 by omega) hJ.dis (show(nd f v).Arcs.length<n by omega);simp only[j6 aG,zC,cO,hv,hx,aO,hso];show VS (w,o) i _ _ (nd f v) n 0 (lF f v)=_;rw[h2];simp only[Ma,aE];rw[if_pos wN,lE aG (show o.length<=9223372036854775807 by omega)];have:=K? hg hf hk hn ho hw m (i+1) (by omega) (by omega);rw[j5 hv]at this;simpa[lY,lF]using this;simp only[jY aG,zD,Zd];rw[zW (by omega)]
theorem L?{f:GFS}(hN:f.Nodes.length<=1000000){r:Int}{n:Nat}:∀(m i:Nat),f.Nodes.length-i<m->i<=f.Nodes.length->Dm f r n m i (List.replicate i (-1))=Mb f r n (List.replicate f.Nodes.length (-1))
 |0,i,hm,_=>by omega
 |m+1,i,hm,hi=>by
  unfold Dm;by_cases aG:i<f.Nodes.length;have wN:((List.replicate i (-1:Int)).length+1)*8<=140737488355328/\(List.replicate i (-1:Int)).length+1<=140737488355328:=by simp;omega
  have e:List.replicate i (-1:Int)++[-1]=List.replicate (i+1) (-1):=by rw[List.replicate_succ']
  simp only[j6 aG,zC,aE];rw[if_pos wN,lE aG (show f.Nodes.length<=9223372036854775807 by omega),e];exact L? hN m (i+1) (by omega) (by omega);simp only[jY aG,zD];rw[show i=f.Nodes.length by omega]
theorem z6y(hg:AB f)(hf:cU f k)(hk:k<=1000000){r:Int}(hr:qH f r)(hn:2*k+4<=n):Kr n f r=some (gW f r):=by
 obtain⟨ho,c8⟩:=PC hg hr;have uQ:=hf.nodes;have h0:IS f (List.replicate f.Nodes.length (-1)) []:=⟨by simp,fun x hx=>by
  have hc:0<=x/\x<((List.replicate f.Nodes.length (-1:Int)).length:Int):=by rw[List.length_replicate];exact hx
  rw[aB,if_pos hc];have:x.toNat<f.Nodes.length:=by have:=hx.1;have:=hx.2;omega
  simp[this]⟩
 obtain⟨w,g1,g2⟩:=qtf hg hf hk n [] r _ (Seen.nil f) hr (by simp) h0 (by simp;omega);rw[c8 n (by omega)]at g1 g2;have H5:=ho.seen.len;have h1:=K? hg hf hk (show k+2<=n by omega) ho g2 n 0 (by omega) (by omega);rw[zV,List.take_zero,List.map_nil]at h1;have h2:=L? (f:=f) (by omega) (r:=r) (n:=n) n 0 (by omega) (by omega);rw[zV,List.replicate_zero]at h2;simp only[Kr,h2,Mb,g1,aO,h1,gW]
theorem qur(hf:cU f k)(hk:k<=1000000)(hn:2*k+4<=n):Le n f=some (if FS f=0 then(gW f 0,0)else(⟨[]⟩,FS f)):=by
 simp only[Le,z6x hf hk (show k<n by omega),aO];by_cases he:FS f=0;obtain⟨e1,e2,e3⟩:=qrz.1 he;simp[he,z6y e3 hf hk (r:=0) ⟨by omega,by omega⟩ hn,aO];have hb:(FS f != 0)=true:=by simpa using he
 simp[he,hb]
end Go.Proofs
namespace Go.Proofs
open Go Go.Rx Go.Vx
def AR(l:List aF)(f:Int):Bool:=l.any (fun x=>x.Feat==f)
variable{f:Int}
theorem VG{l:List aF}:AR l f=true↔∃x∈l,x.Feat=f:=by simp[AR]
def sR(a b:List aF):List aF:=b.filter fun y=>!AR a y.Feat
def prs(a b:List aF):List (Int×Int):=b.filterMap fun y=>(a.find? fun x=>x.Feat==y.Feat).map fun x=>(x.To,y.To)
structure pT(a b out:List aF):Prop where
 up:j7 out
 pm:out.Perm (a++sR a b)
variable{a:List aF}
variable{b:List aF}
variable{o:List aF}
theorem pT.uniq{o':List aF}(h:pT a b o)(h':pT a b o'):o=o':=ui h.up h'.up (h.pm.trans h'.pm.symm)
variable{x:aF}
theorem Q?(hd:sL a)(hx:x∈a)(hf:x.Feat=f):a.find? (fun x=>x.Feat==f)=some x:=by
 have key:∀o,a.find? (fun x=>x.Feat==f)=o->o=some x:=by intro o h;rcases o with _|y;have:=List.find?_eq_none.1 h x hx;simp[hf]at this;have h1:=List.find?_some h;have h2:=List.mem_of_find?_eq_some h;simp at h1;rw[hd.eq y h2 x hx (by omega)]
 exact key _ rfl
theorem qs4(h:∀x∈a,x.Feat≠f):a.find? (fun x=>x.Feat==f)=none:=by
 rw[List.find?_eq_none];intro x hx;simpa using h x hx
theorem qsq(a b:List aF)(y:aF):sR a (b++[y])=sR a b++(if AR a y.Feat then[]else[y]):=by
 unfold sR;rw[List.filter_append];cases h:AR a y.Feat<;>simp[h]
variable{y:aF}
theorem qul(hd:sL a)(hx:x∈a)(hf:x.Feat=y.Feat):prs a (b++[y])=prs a b++[(x.To,y.To)]:=by
 simp[prs,List.filterMap_append,Q? hd hx hf]
theorem qsv(h:∀x∈a,x.Feat≠y.Feat):prs a (b++[y])=prs a b:=by
 simp[prs,List.filterMap_append,qs4 h]
theorem Wq(a:List aF):∀b:List aF,(sR a b).length+(prs a b).length=b.length
 |[]=>rfl|y::b=>by
  have ih:=Wq a b;unfold sR prs at*;cases h:a.find? (fun x=>x.Feat==y.Feat)with
  |none=>
   have h2:AR a y.Feat=false:=by rw[List.find?_eq_none]at h;rw[Bool.eq_false_iff];intro e;obtain⟨x,hx,he⟩:=VG.1 e;have:=h x hx;simp[he]at this
   simp only[List.filter_cons,h2,Bool.not_false,if_true,List.filterMap_cons,h,Option.map_none,zO];omega
  |some x=>have h2:AR a y.Feat=true:=VG.2 ⟨x,List.mem_of_find?_eq_some h,by have:=List.find?_some h;simpa using this⟩;simp only[List.filter_cons,h2,Bool.not_true,Bool.false_eq_true,if_false,List.filterMap_cons,h,zM,zO];omega
theorem mf{p:Int×Int}(h:p∈prs a b):∃x∈a,∃y∈b,x.Feat=y.Feat/\p=(x.To,y.To):=by
 obtain⟨y,hy,e⟩:=List.mem_filterMap.1 h;rcases h1:a.find? (fun x=>x.Feat==y.Feat)with _|x;rw[h1]at e;cases e;rw[h1]at e;have h2:=List.find?_some h1;exact⟨x,List.mem_of_find?_eq_some h1,y,hy,by simpa using h2,(Option.some.inj e).symm⟩
theorem pT.len(h:pT a b o):o.length+(prs a b).length=a.length+b.length:=by
 have h1:=h.pm.length_eq;have h2:=Wq a b;rw[zU]at h1;omega
theorem pT.mem(h:pT a b o)(hx:x∈o):x∈a\/x∈b:=by
 rcases yD.1 (h.pm.mem_iff.1 hx)with h1 |h1;exact Or.inl h1;exact Or.inr (List.mem_filter.1 h1).1
def nP:List aF->List aF->List aF
 |[],b=>b|a,[]=>a
 |x::a,y::b=>if x.Feat<y.Feat then x::nP a (y::b)else if y.Feat<x.Feat then y::nP (x::a) b else x::nP a b
termination_by a b=>a.length+b.length
theorem z41(b:List aF):sR [] b=b:=by simp[sR,AR]
theorem z0b(h:∀y∈b,x.Feat≠y.Feat):sR (x::a) b=sR a b:=by
 unfold sR;apply List.filter_congr;intro y hy;have:=h y hy;simp[AR,this]
theorem n?(b:List aF):prs [] b=[]:=by simp[prs]
theorem Cf(a b:List aF)(y:aF):prs a (y::b)=((a.find? fun x=>x.Feat==y.Feat).map fun x=>(x.To,y.To)).toList++prs a b:=by
 unfold prs;cases h:a.find? (fun x=>x.Feat==y.Feat)<;>simp[List.filterMap_cons,h]
theorem qwi(h:∀y∈b,x.Feat≠y.Feat):prs (x::a) b=prs a b:=by
 induction b with
 |nil=>rfl|cons y b ih=>
  have e:(x.Feat==y.Feat)=false:=by simpa using h y (by simp)
  have Fa:=ih fun z hz=>h z (List.mem_cons_of_mem _ hz);have q:(x::a).find? (fun z=>z.Feat==y.Feat)=a.find? (fun z=>z.Feat==y.Feat):=by simp only[List.find?_cons,e]
  rw[Cf,Cf,q,Fa]
theorem pT.step(h:pT a b o)(hx:∀y∈o,x.Feat<y.Feat)(hb:∀y∈b,x.Feat≠y.Feat):pT (x::a) b (x::o):=
 ⟨List.pairwise_cons.2 ⟨hx,h.up⟩,by rw[z0b hb];exact h.pm.cons x⟩
theorem PP:∀(a b:List aF),j7 a->j7 b->pT a b (nP a b)
 |[],b,_,hb=>by rw[nP];exact⟨hb,by rw[z41];exact .refl _⟩
 |x::a,[],ha,_=>by rw[nP];exact⟨ha,by simp[sR]⟩;intro h;cases h
 |x::a,y::b,ha,hb=>by
  obtain⟨h1,h2⟩:=List.pairwise_cons.1 ha;obtain⟨h3,h4⟩:=List.pairwise_cons.1 hb;rw[nP];by_cases e1:x.Feat<y.Feat;rw[if_pos e1];have ih:=PP a (y::b) h2 hb;have hyb:∀z∈y::b,x.Feat<z.Feat:=fun z hz=>by rcases zI.1 hz with rfl |hz;exact e1;have:=h3 z hz;omega
  refine ih.step (fun z hz=>?_) (fun z hz=>by have:=hyb z hz;omega);rcases ih.mem hz with hz |hz;exact h1 z hz;exact hyb z hz;rw[if_neg e1];by_cases e2:y.Feat<x.Feat;rw[if_pos e2];have ih:=PP (x::a) b ha h4;have hya:∀z∈x::a,y.Feat<z.Feat:=fun z hz=>by rcases zI.1 hz with rfl |hz;exact e2;have:=h1 z hz;omega
  refine⟨List.pairwise_cons.2 ⟨fun z hz=>?_,ih.up⟩,?_⟩;rcases ih.mem hz with hz |hz;exact hya z hz;exact h3 z hz;have e:sR (x::a) (y::b)=y::sR (x::a) b:=by
   have:AR (x::a) y.Feat=false:=by rw[Bool.eq_false_iff];intro h;obtain⟨z,hz,e⟩:=VG.1 h;have:=hya z hz;omega
   unfold sR;simp[List.filter_cons,this]
  rw[e];exact(ih.pm.cons y).trans List.perm_middle.symm;rw[if_neg e2];have e:x.Feat=y.Feat:=by omega
  have ih:=PP a b h2 h4;have h5:=ih.step (x:=x) (fun z hz=>by rcases ih.mem hz with hz |hz;exact h1 z hz;have:=h3 z hz;omega) (fun z hz=>by have:=h3 z hz;omega);refine⟨h5.up,h5.pm.trans ?_⟩;have:sR (x::a) (y::b)=sR (x::a) b:=by have:AR (x::a) y.Feat=true:=VG.2 ⟨x,by simp,e⟩;unfold sR;simp[List.filter_cons,this]
  rw[this]
 termination_by a b=>a.length+b.length
theorem WK(hb:j7 (y::b))(h:x.Feat<y.Feat):prs (x::a) (y::b)=prs a (y::b):=qwi fun z hz=>by
 rcases zI.1 hz with rfl |hz;omega;have:=(List.pairwise_cons.1 hb).1 z hz;omega
theorem WN(ha:j7 (x::a))(h:y.Feat<x.Feat):prs (x::a) (y::b)=prs (x::a) b:=by
 have:(x::a).find? (fun z=>z.Feat==y.Feat)=none:=qs4 fun z hz=>by rcases zI.1 hz with rfl |hz;omega;have:=(List.pairwise_cons.1 ha).1 z hz;omega
 rw[Cf,this];rfl
theorem WO(hb:j7 (y::b))(h:x.Feat=y.Feat):prs (x::a) (y::b)=(x.To,y.To)::prs a b:=by
 have:(x::a).find? (fun z=>z.Feat==y.Feat)=some x:=by simp[List.find?_cons,h]
 rw[Cf,this];show(x.To,y.To)::prs (x::a) b=_;rw[qwi fun z hz=>by have:=(List.pairwise_cons.1 hb).1 z hz;omega]
theorem sy(a:List aF):prs a []=[]:=rfl
variable{a:List aF}
theorem pT.nilr(ha:j7 a):pT a [] a:=⟨ha,by simp[sR]⟩
theorem pT.inn{b o:List aF}{x y:aF}(h:pT a b o)(hx:x∈a)(e:x.Feat=y.Feat):pT a (b++[y]) o:=⟨h.up,by
 have:AR a y.Feat=true:=VG.2 ⟨x,hx,e⟩;rw[qsq,this];simpa using h.pm⟩
theorem pT.out{b o:List aF}{y:aF}{k:Nat}(h:pT a b o)(h1:∀z∈o.take k,z.Feat<y.Feat)(h2:∀z∈o.drop k,y.Feat<z.Feat):pT a (b++[y]) (o.take k++y::o.drop k):=by
 have hu:=h.up;rw[<-List.take_append_drop k o]at hu;obtain⟨u1,u2,u3⟩:=List.pairwise_append.1 hu;have hn:AR a y.Feat=false:=by rw[Bool.eq_false_iff];intro e;obtain⟨z,hz,e⟩:=VG.1 e;have hz:z∈o:=h.pm.mem_iff.2 (List.mem_append_left _ hz);rw[<-List.take_append_drop k o]at hz;rcases yD.1 hz with hz |hz;have:=h1 z hz;omega;have:=h2 z hz;omega
 refine⟨List.pairwise_append.2 ⟨u1,List.pairwise_cons.2 ⟨h2,u2⟩,fun z hz w hw=>?_⟩,?_⟩;rcases zI.1 hw with rfl |hw;exact h1 z hz;exact u3 z hz w hw;rw[qsq,hn];refine List.perm_middle.trans ?_;rw[List.take_append_drop];have:(y::o).Perm (y::(a++sR a b)):=h.pm.cons y;refine this.trans ?_;simp only[Bool.false_eq_true,if_false];rw[<-zT];exact(List.perm_append_singleton y _).symm
structure UQ(N D:Nat)(a9 d:Nat->Nat):Prop where
 lt:∀i,i<N->a9 i<N
 idem:∀i,i<N->a9 (a9 i)=a9 i
 zero:∀i,i<N->d (a9 i)=0
 bd:∀i,i<N->d i<=D
def fO(a9:Nat->Nat)(m n i:Nat):Nat:=if a9 i=n then m else a9 i
def AS(a9 d:Nat->Nat)(n i:Nat):Nat:=if a9 i=n then d i+1 else d i
def LB(N:Nat)(a9 d:Nat->Nat)(i j:Nat):Prop:=j<N/\a9 j=a9 i/\d j<d i
structure Wi(cells:List aS)(N:Nat)(a9 d:Nat->Nat):Prop where
 root:∀(i:Nat)(c:aS),cells[i]? = some c->a9 i=i->c.forward= -1
 fwd:∀(i:Nat)(c:aS),cells[i]? = some c->a9 i≠i->∃j:Nat,c.forward=(j:Int)/\LB N a9 d i j
structure ED(P:List Int)(N:Nat)(a9 d:Nat->Nat):Prop where
 root:∀(i:Nat)(c:Int),P[i]? = some c->a9 i=i->c=(i:Int)
 fwd:∀(i:Nat)(c:Int),P[i]? = some c->a9 i≠i->∃j:Nat,c=(j:Int)/\LB N a9 d i j
variable{N:Nat}
variable{D:Nat}
variable{a9:Nat->Nat}
variable{d:Nat->Nat}
variable{m:Nat}
variable{n:Nat}
theorem UQ.mrg(h:UQ N D a9 d)(hm:m<N)(em:a9 m=m)(en:a9 n=n)(oG:m≠n):UQ N (D+1) (fO a9 m n) (AS a9 d n) where
 lt i hi:=by unfold fO;split;exact hm;exact h.lt i hi
 idem i hi:=by have h1:=h.idem i hi;unfold fO;by_cases e:a9 i=n;simp[e,em,oG];simp[e,h1]
 zero i hi:=by have h1:=h.idem i hi;have h2:=h.zero i hi;have h3:=h.zero m hm;unfold fO AS;rw[em]at h3;by_cases e:a9 i=n;simp[e,em,oG,h3];simp[e,h1,h2]
 bd i hi:=by have:=h.bd i hi;unfold AS;split<;>omega
variable{i:Nat}
theorem LB.mrg{D:Nat}{j:Nat}(h:LB N a9 d i j):LB N (fO a9 m n) (AS a9 d n) i j:=by
 obtain⟨h1,h2,h3⟩:=h;refine⟨h1,by simp[fO,h2],?_⟩;unfold AS;rw[h2];split<;>omega
theorem qvy(h:UQ N D a9 d)(hm:m<N)(hn:n<N)(em:a9 m=m)(en:a9 n=n)(oG:m≠n):LB N (fO a9 m n) (AS a9 d n) n m:=by
 have h3:=h.zero m hm;have h4:=h.zero n hn;rw[em]at h3;rw[en]at h4;refine⟨hm,by simp[fO,em,en,oG],?_⟩;simp[AS,em,en,oG,h3,h4]
theorem AX{X:Type}{l:List X}{k:Nat}{x y:X}(h:(l.set k x)[i]? = some y):(i=k/\y=x)\/(i≠k/\l[i]? = some y):=by
 rw[List.getElem?_set]at h;by_cases e:k=i;rw[if_pos e]at h;split at h;exact Or.inl ⟨e.symm,(Option.some.inj h).symm⟩;cases h;rw[if_neg e]at h;exact Or.inr ⟨fun q=>e q.symm,h⟩
theorem Xo(em:a9 m=m)(oG:m≠n)(h:fO a9 m n i=i):i≠n/\a9 i=i:=by
 unfold fO at h;by_cases e:a9 i=n;rw[if_pos e]at h;subst h;exact⟨oG,em⟩;rw[if_neg e]at h;exact⟨fun q=>e (by rw[h,q]),h⟩
theorem qws(em:a9 m=m)(h:fO a9 m n i≠i)(hn:i≠n):a9 i≠i:=by
 intro q;apply h;unfold fO;rw[q,if_neg hn]
theorem Wi.mrg{cells:List aS}{N D:Nat}{a9 d:Nat->Nat}(h:Wi cells N a9 d)(hr:UQ N D a9 d){m n:Nat}(hm:m<N)(hn:n<N)(em:a9 m=m)(en:a9 n=n)(oG:m≠n)(t:Int)(o:List aF)(z:Int)(q:List aF):
  Wi ((cells.set m ⟨-1,t,o⟩).set n ⟨(m:Int),z,q⟩) N (fO a9 m n) (AS a9 d n) where
 root i c hc hi:=by obtain⟨h1,h2⟩:=Xo em oG hi;rcases AX hc with⟨e,_⟩|⟨_,hc⟩;exact absurd e h1;rcases AX hc with⟨e,e2⟩|⟨_,hc⟩;subst e2;rfl;exact h.root i c hc h2
 fwd i c hc hi:=by rcases AX hc with⟨e,e2⟩|⟨h1,hc⟩;subst e2;subst e;exact⟨m,rfl,qvy hr hm hn em en oG⟩;have h2:=qws em hi h1;rcases AX hc with⟨e,e2⟩|⟨_,hc⟩;subst e;exact absurd em h2;obtain⟨j,h3,h4⟩:=h.fwd i c hc h2;exact⟨j,h3,h4.mrg (D:=D)⟩
theorem ED.mrg{P:List Int}{N D:Nat}{a9 d:Nat->Nat}(h:ED P N a9 d)(hr:UQ N D a9 d){m n:Nat}(hm:m<N)(hn:n<N)(em:a9 m=m)(en:a9 n=n)(oG:m≠n):
  ED (P.set n (m:Int)) N (fO a9 m n) (AS a9 d n) where
 root i c hc hi:=by obtain⟨h1,h2⟩:=Xo em oG hi;rcases AX hc with⟨e,_⟩|⟨_,hc⟩;exact absurd e h1;exact h.root i c hc h2
 fwd i c hc hi:=by rcases AX hc with⟨e,e2⟩|⟨h1,hc⟩;subst e2;subst e;exact⟨m,rfl,qvy hr hm hn em en oG⟩;have h2:=qws em hi h1;obtain⟨j,h3,h4⟩:=h.fwd i c hc h2;exact⟨j,h3,h4.mrg (D:=D)⟩
theorem ED.halve{P:List Int}(h:ED P N a9 d){j:Nat}{c:Int}(hi:a9 i≠i)(hj:LB N a9 d i j)(hc:P[j]? = some c):ED (P.set i c) N a9 d where
 root k x hx hk:=by rcases AX hx with⟨e,_⟩|⟨_,hx⟩;subst e;exact absurd hk hi;exact h.root k x hx hk
 fwd k x hx hk:=by rcases AX hx with⟨e,e2⟩|⟨_,hx⟩;subst e;subst e2;obtain⟨j1,j2,j3⟩:=hj;by_cases Qr:a9 j=j;have:=h.root j x hc Qr;exact⟨j,this,j1,j2,j3⟩;obtain⟨l,h1,h2,h3,h4⟩:=h.fwd j x hc Qr;exact⟨l,h1,h2,by rw[h3,j2],by omega⟩;exact h.fwd k x hx hk
def tot(l:List aS):Nat:=(l.map fun c=>c.arcs.length).sum
theorem Jd:∀{l:List aS}{i:Nat}{x:aS}(c:aS),l[i]? = some x->tot (l.set i c)+x.arcs.length=tot l+c.arcs.length
 |[],i,x,c,h=>by simp at h
 |y::l,0,x,c,h=>by
  have:y=x:=by simpa using h
  subst this;simp only[List.set_cons_zero,tot,zQ,List.sum_cons];omega
 |y::l,i+1,x,c,h=>by have:=Jd (l:=l) (i:=i) c (by simpa using h);simp only[List.set_cons_succ,tot,zQ,List.sum_cons]at this ⊢;omega
theorem PA:∀{l:List aS}{i:Nat}{x:aS},l[i]? = some x->x.arcs.length<=tot l:=fun{l i x} h=>by
 have:=Jd (aS.mk 0 0 []) h;simp only[zS]at this;omega
structure xS(N:Nat)(FB:Int)(l:List aF):Prop where
 up:j7 l
 ok:∀a∈l,0<=a.Feat/\a.Feat<FB/\0<=a.To/\a.To<N
theorem xS.nil(N:Nat)(FB:Int):xS N FB []:=⟨List.Pairwise.nil,fun a h=>by cases h⟩
theorem pT.ok{N:Nat}{FB:Int}{a b o:List aF}(h:pT a b o)(ha:xS N FB a)(hb:xS N FB b):xS N FB o:=⟨h.up,fun x hx=>by
 rcases h.mem hx with h1 |h1;exact ha.ok x h1;exact hb.ok x h1⟩
structure iP(N D:Nat)(FB TB:Int)(cells:List aS)(a9 d:Nat->Nat):Prop where
 rok:UQ N D a9 d
 cok:Wi cells N a9 d
 len:cells.length=N
 ar:∀(i:Nat)(c:aS),cells[i]? = some c->xS N FB c.arcs
 kd:∀(i:Nat)(c:aS),cells[i]? = some c->0<=c.kind/\c.kind<TB
def vE(cells:List aS)(m n:Nat)(t:Int)(o:List aF):List aS:=(cells.set m ⟨-1,t,o⟩).set n ⟨(m:Int),0,[]⟩
theorem iP.mrg{N D:Nat}{FB TB:Int}{cells:List aS}{a9 d:Nat->Nat}(h:iP N D FB TB cells a9 d){m n:Nat}(hm:m<N)(hn:n<N)(em:a9 m=m)(en:a9 n=n)(oG:m≠n){t:Int}{o:List aF}(ho:xS N FB o)(ht:0<=t/\t<TB):
  iP N (D+1) FB TB (vE cells m n t o) (fO a9 m n) (AS a9 d n) where
 rok:=h.rok.mrg hm em en oG
 cok:=h.cok.mrg h.rok hm hn em en oG t o 0 []
 len:=by simp[vE,h.len]
 ar i c hc:=by rcases AX hc with⟨_,e⟩|⟨_,hc⟩;subst e;exact .nil N FB;rcases AX hc with⟨_,e⟩|⟨_,hc⟩;subst e;exact ho;exact h.ar i c hc
 kd i c hc:=by rcases AX hc with⟨_,e⟩|⟨_,hc⟩;subst e;exact⟨by simp,by show(0:Int)<TB;omega⟩;rcases AX hc with⟨_,e⟩|⟨_,hc⟩;subst e;exact ht;exact h.kd i c hc
theorem z7t{cells:List aS}{m n:Nat}{x y:aS}(hx:cells[m]? = some x)(hy:cells[n]? = some y)(oG:m≠n)(t:Int){o:List aF}(ho:pT x.arcs y.arcs o):
  tot (vE cells m n t o)+(prs x.arcs y.arcs).length=tot cells:=by
 have h1:=Jd ⟨-1,t,o⟩ hx;have EU:(cells.set m ⟨-1,t,o⟩)[n]? = some y:=by rw[List.getElem?_set_ne oG];exact hy
 have h2:=Jd ⟨(m:Int),0,[]⟩ EU;have h3:=ho.len;simp only[vE,zS]at*;omega
structure v4(N:Nat)(cells:List aS)(P T:List Int)(A:List (List aF))(a9 d:Nat->Nat):Prop where
 pok:ED P N a9 d
 lp:P.length=N
 lt:T.length=N
 la:A.length=N
 same:∀(i:Nat)(c:aS),cells[i]? = some c->a9 i=i->T[i]? = some c.kind/\A[i]? = some c.arcs
theorem v4.mrg{N D:Nat}{FB TB:Int}{cells:List aS}{P T:List Int}{A:List (List aF)}{a9 d:Nat->Nat}(hh:iP N D FB TB cells a9 d)(h:v4 N cells P T A a9 d){m n:Nat}(hm:m<N)(hn:n<N)(em:a9 m=m)(en:a9 n=n)(oG:m≠n)(t:Int)(o:List aF):
  v4 N (vE cells m n t o) (P.set n (m:Int)) (T.set m t) (A.set m o) (fO a9 m n) (AS a9 d n) where
 pok:=h.pok.mrg hh.rok hm hn em en oG
 lp:=by simp[h.lp]
 lt:=by simp[h.lt]
 la:=by simp[h.la]
 same i c hc hi:=by obtain⟨h1,h2⟩:=Xo em oG hi;rcases AX hc with⟨e,_⟩|⟨_,hc⟩;exact absurd e h1;rcases AX hc with⟨e,e2⟩|⟨e,hc⟩;subst e;subst e2;have q1:=h.lt;have q2:=h.la;constructor;rw[List.getElem?_set_self (by omega)];rw[List.getElem?_set_self (by omega)];have:=h.same i c hc h2;rw[List.getElem?_set_ne (fun q=>e q.symm),List.getElem?_set_ne (fun q=>e q.symm)];exact this
theorem v4.halve{N:Nat}{cells:List aS}{P P' T:List Int}{A:List (List aF)}{a9 d:Nat->Nat}(h:v4 N cells P T A a9 d)(hp:ED P' N a9 d)(hl:P'.length=N):v4 N cells P' T A a9 d:=⟨hp,hl,h.lt,h.la,h.same⟩
def SK(tr:List bX)(cells:List aS):List aS:=tr.foldr (fun x l=>l.set x.atx.toNat x.old) cells
theorem si(tr:List bX)(x:bX)(cells:List aS):SK (tr++[x]) cells=SK tr (cells.set x.atx.toNat x.old):=by simp[SK]
theorem qww{l:List aS}{k:Nat}{x y:aS}(h:l[k]? = some x):(l.set k y).set k x=l:=by
 rw[List.set_set];apply List.ext_getElem? fun i=>?_;rw[List.getElem?_set];by_cases e:k=i;subst e;have hk:=(zG.1 h).1;simp[hk]at h ⊢;exact h.symm;simp[e]
def rI(a9:Nat->Nat)(v:Int):Int:=(a9 v.toNat:Int)
def iE(cells:List aS)(v:Int):aS:=(cells[v.toNat]?).getD ⟨-1,0,[]⟩
def UM(out:List aT)(k:Nat)(l:List aF):List aT:=out.set k ⟨((out[k]?).map (·.Typex)).getD 0,l⟩
def nL(g:List Int×List aT->Int->Int×List Int×List aT):List aF->List Int×List aT->List aF->List aF×List Int×List aT
 |[],s,aY=>(aY,s)|a::l,s,aY=>nL g l (g s a.To).2 (aY++[⟨a.Feat,(g s a.To).1⟩])
def vis(cells:List aS)(a9:Nat->Nat):Nat->List Int×List aT->Int->Int×List Int×List aT
 |0,s,_=>(0,s)|k+1,s,v=>if rI a9 v∈s.1 then((s.1.idxOf (rI a9 v):Int),s)
  else
   let c:=iE cells (rI a9 v)
   let r:=nL (vis cells a9 k) c.arcs (s.1++[rI a9 v],s.2++[⟨c.kind,[]⟩]) []
   ((s.1.length:Int),r.2.1,UM r.2.2 s.1.length r.1)
structure Sn(N:Nat)(B:Nat)(s:List Int×List aT):Prop where
 nd:s.1.Nodup
 ing:∀v∈s.1,0<=v/\v<(N:Int)
 len:s.2.length=s.1.length
 sm:∀x∈s.2,x.Arcs.length<=B
variable{N:Nat}
theorem Sn.le{B:Nat}{s:List Int×List aT}(h:Sn N B s):s.1.length<=N:=Yo N h.nd h.ing
theorem Sn.nil(N B:Nat):Sn N B ([],[]):=⟨List.nodup_nil,fun v hv=>(List.not_mem_nil hv).elim,rfl,fun v hv=>(List.not_mem_nil hv).elim⟩
theorem Sn.snoc{B:Nat}{s:List Int×List aT}(h:Sn N B s){v:Int}(hv:0<=v/\v<(N:Int))(hn:v ∉ s.1)(k:Int):Sn N B (s.1++[v],s.2++[⟨k,[]⟩]):=⟨by
 rw[List.nodup_append];refine⟨h.nd,by simp,?_⟩;intro a ha b hb;simp at hb;subst hb;intro e;subst e;exact hn ha,fun u hu=>by
 rcases yD.1 hu with hu |hu;exact h.ing u hu;simp at hu;subst hu;exact hv,by simp[h.len],fun x hx=>by
 rcases yD.1 hx with hx |hx;exact h.sm x hx;simp at hx;subst hx;simp⟩
theorem iP.cel{D:Nat}{FB TB:Int}{cells:List aS}{a9 d:Nat->Nat}(h:iP N D FB TB cells a9 d){v:Int}(hv:0<=v/\v<(N:Int)):cells[v.toNat]? = some (iE cells v):=by
 have h1:=h.len;have h2:v.toNat<cells.length:=by omega
 rw[iE,List.getElem?_eq_getElem h2];rfl
theorem iP.rI{N D:Nat}{FB TB:Int}{cells:List aS}{a9 d:Nat->Nat}(h:iP N D FB TB cells a9 d){v:Int}(hv:0<=v/\v<(N:Int)):0<=rI a9 v/\rI a9 v<(N:Int):=by
 have:=h.rok.lt v.toNat (by omega);unfold Go.Proofs.rI;omega
theorem qx6(g:List Int×List aT->Int->Int×List Int×List aT):∀(l:List aF)(s:List Int×List aT)(aY:List aF),(nL g l s aY).1.length=aY.length+l.length
 |[],s,aY=>rfl|a::l,s,aY=>by rw[nL,qx6 g l];simp;omega
theorem Ik{N D B:Nat}{FB TB:Int}{cells:List aS}{a9 d:Nat->Nat}(h:iP N D FB TB cells a9 d)(hB:tot cells<=B):∀(k:Nat)(s:List Int×List aT)(v:Int),Sn N B s->(0<=v/\v<(N:Int))->N-s.1.length<k->
  Sn N B (vis cells a9 k s v).2/\s.1.length<=(vis cells a9 k s v).2.1.length/\(0<(vis cells a9 k s v).2.1.length)
 |0,s,v,hs,hv,hk=>by omega
 |k+1,s,v,hs,hv,hk=>by
  unfold vis;by_cases hm:rI a9 v∈s.1;rw[if_pos hm];exact⟨hs,zF _,List.length_pos_of_mem hm⟩;rw[if_neg hm];have hr:=h.rI hv;have uN:=hs.snoc hr hm (iE cells (rI a9 v)).kind;have hc:=h.cel hr;have YM:=h.ar _ _ hc;have A4:=uN.le;simp only[zU,zO,zS]at A4;have key:∀(l:List aF),(∀a∈l,0<=a.To/\a.To<(N:Int))->∀(s':List Int×List aT)(aY:List aF),Sn N B s'->s.1.length+1<=s'.1.length->Sn N B (nL (vis cells a9 k) l s' aY).2/\s.1.length+1<=(nL (vis cells a9 k) l s' aY).2.1.length:=by
   intro l;induction l with
   |nil=>intro _ s' aY h1 h2;exact⟨h1,h2⟩|cons a l ih=>intro hl s' aY h1 h2;have ha:=hl a (by simp);obtain⟨g1,g2,g3⟩:=Ik h hB k s' a.To h1 ha (by omega);exact ih (fun b hb=>hl b (List.mem_cons_of_mem _ hb)) _ _ g1 (by omega)
  obtain⟨g1,g2⟩:=key _ (fun a ha=>(YM.ok a ha).2.2) _ [] uN (by simp);refine⟨⟨g1.nd,g1.ing,?_,?_⟩,?_,?_⟩;show(UM _ _ _).length=_;rw[UM,List.length_set];exact g1.len;intro x hx;rcases List.mem_or_eq_of_mem_set hx with hx |hx;exact g1.sm x hx;subst hx;show(nL _ _ _ _).1.length<=B;rw[qx6];have:=PA hc;simp;omega;show s.1.length<=(nL (vis cells a9 k) _ _ _).2.1.length;omega;show 0<(nL (vis cells a9 k) _ _ _).2.1.length;omega
end Go.Proofs
namespace Go.Proofs
open Go Go.Rx Go.Vx
set_option maxRecDepth 10000
theorem F?{N D:Nat}{FB TB:Int}{cells:List aS}{a9 d:Nat->Nat}(h:iP N D FB TB cells a9 d):∀(k i:Nat),d i<k->i<N->Ef cells k (i:Int)=some (a9 i:Int)
 |0,i,hk,_=>by omega
 |k+1,i,hk,hi=>by
  have hl:=h.len;obtain⟨c,hc,_⟩:=fA (l:=cells) (show i<cells.length by omega);simp only[Ef,cO,hc,aO];by_cases e:a9 i=i;have:=h.cok.root i c hc e;simp[this,wh,e];obtain⟨j,h1,h2,h3,h4⟩:=h.cok.fwd i c hc e;have h5:decide (c.forward>=0)=true:=by simp[h1]
  rw[h5,zC,h1,F? h k j (by omega) h2,h3]
variable{N:Nat}
variable{a9:Nat->Nat}
variable{d:Nat->Nat}
theorem ux{D:Nat}{FB TB:Int}{cells:List aS}(h:iP N D FB TB cells a9 d){n:Nat}(hn:D<n){v:Int}(hv:0<=v/\v<(N:Int))(p2:List cV)(p3:List dK)(p6:List bX)(p8:List dJ):
  Ea n v p2 p3 cells p6 p8=some (rI a9 v):=by
 have h1:v.toNat<N:=by omega
 have h2:=h.rok.bd _ h1;have:=F? h n v.toNat (by omega) h1;rw[show((v.toNat:Nat):Int)=v by omega]at this;exact this
variable{i:Nat}
variable{j:Nat}
theorem ED.two{P:List Int}(h:ED P N a9 d){c:Int}(hj:LB N a9 d i j)(hc:P[j]? = some c):∃l:Nat,c=(l:Int)/\LB N a9 d i l:=by
 obtain⟨j1,j2,j3⟩:=hj;by_cases Qr:a9 j=j;exact⟨j,h.root j c hc Qr,j1,j2,j3⟩;obtain⟨l,h1,h2,h3,h4⟩:=h.fwd j c hc Qr;exact⟨l,h1,h2,by rw[h3,j2],by omega⟩
theorem U?{N:Nat}{a9 d:Nat->Nat}:∀(k i:Nat)(P:List Int),ED P N a9 d->P.length=N->d i<k->i<N->∃P',Em k (i:Int) P=some ((a9 i:Int),P')/\ED P' N a9 d/\P'.length=N
 |0,i,P,_,_,hk,_=>by omega
 |k+1,i,P,h,hl,hk,hi=>by
  obtain⟨c,hc,_⟩:=fA (l:=P) (show i<P.length by omega);simp only[Em,cO,hc,aO];by_cases e:a9 i=i;have:=h.root i c hc e;subst this;have e1:((i:Int) != (i:Int))=false:=by simp
  simp only[e1,zD,xe,e];exact⟨P,rfl,h,hl⟩;obtain⟨j,h1,h2⟩:=h.fwd i c hc e;have⟨h3,h4,h5⟩:=h2;subst h1;have e1:((j:Int) != (i:Int))=true:=by
   rw[bne_iff_ne];intro q;have:j=i:=by omega
   subst this;omega
  obtain⟨c2,y6,_⟩:=fA (l:=P) (show j<P.length by omega);obtain⟨l,g1,g2⟩:=h.two h2 y6;have hP:=h.halve e h2 y6;have e2:(P.set (0+(i:Int).toNat) c2)[i]? = some c2:=by rw[Nat.zero_add,zZ,List.getElem?_set_self (by omega)]
  simp only[e1,zC,cO,y6,aO,e2];rw[Nat.zero_add,zZ];obtain⟨P',r1,r2,r3⟩:=U? k l (P.set i c2) hP (by simp[hl]) (Nat.lt_of_lt_of_le g2.2.2 (by omega)) g2.1;subst g1;exact⟨P',by rw[r1,g2.2.1],r2,r3⟩
theorem se{D:Nat}{FB TB:Int}{cells:List aS}{P T:List Int}{A:List (List aF)}(h:iP N D FB TB cells a9 d)(hc:v4 N cells P T A a9 d){n:Nat}(hn:D<n){v:Int}(hv:0<=v/\v<(N:Int))(p2:List cV)(p3:List dK)(p6:List Int)(p8:List (List aF)):
  ∃P',Ee n v p2 p3 P p6 p8=some (rI a9 v,P')/\v4 N cells P' T A a9 d:=by
 have h1:v.toNat<N:=by omega
 have h2:=h.rok.bd _ h1;obtain⟨P',r1,r2,r3⟩:=U? n v.toNat P hc.pok hc.lp (by omega) h1;rw[show((v.toNat:Nat):Int)=v by omega]at r1;exact⟨P',r1,hc.halve r2 r3⟩
theorem X2(h:i+j<=1000000000):IntKind.i64.wrap ((IntKind.u64.wrap (IntKind.i64.wrap ((i:Int)+(j:Int)))).fdiv (2^(min (1:Int).toNat IntKind.u64.bits)))=(((i+j)/2:Nat):Int):=by
 have e1:IntKind.i64.wrap ((i:Int)+(j:Int))=((i+j:Nat):Int):=FJ (by omega) (by omega);have e2:IntKind.u64.wrap ((i+j:Nat):Int)=((i+j:Nat):Int):=by unfold IntKind.wrap;simp only[IntKind.signed,IntKind.bits,Bool.false_and,Bool.false_eq_true,if_false];omega
 have e3:min (1:Int).toNat IntKind.u64.bits=1:=rfl;have e4:((i+j:Nat):Int).fdiv (2^1)=(((i+j)/2:Nat):Int):=by rw[show(2:Int)^1=((2:Nat):Int) by rfl,Int.fdiv_eq_ediv_of_nonneg _ (Int.natCast_nonneg _)];rfl
 rw[e1,e2,e3,e4];exact wr (by omega) (by omega)
theorem j7.lt{l:List aF}(h:j7 l){x y:aF}(hi:l[i]? = some x)(hj:l[j]? = some y)(mO:i<j):x.Feat<y.Feat:=by
 obtain⟨h1,e1⟩:=zG.1 hi;obtain⟨h2,e2⟩:=zG.1 hj;have:=List.pairwise_iff_getElem.1 h i j h1 h2 mO;rw[e1,e2]at this;exact this
structure At(l:List aF)(f:Int)(k:Nat):Prop where
 le:k<=l.length
 lo:∀(i:Nat)(x:aF),l[i]? = some x->i<k->x.Feat<f
 hi:∀(i:Nat)(x:aF),l[i]? = some x->k<=i->f<=x.Feat
theorem E_(n:Nat){x:aF}{f:Int}(h1:0<=x.Feat/\x.Feat<1000000000)(h2:0<=f/\f<1000000000):VW n x f=some (x.Feat-f):=by
 rw[VW,wr (by omega) (by omega)]
theorem Aa{N:Nat}{FB:Int}{l:List aF}(h:xS N FB l)(J:FB<=1000000000)(hl:l.length<=1000000){f:Int}(hf:0<=f/\f<FB)(n:Nat):∀(m i j:Nat),j-i<m->i<=j->j<=l.length->(∀(k:Nat)(x:aF),l[k]? = some x->k<i->x.Feat<f)->(∀(k:Nat)(x:aF),l[k]? = some x->j<=k->f<=x.Feat)->
  ∃(k:Nat)(b:Bool),Q8 l f (VW n) m (i:Int) (j:Int)=some ((k:Int),b)/\At l f k/\(b=true↔∃x,l[k]? = some x/\x.Feat=f)
 |0,i,j,hm,_,_,_,_=>by omega
 |m+1,i,j,hm,mO,hj,h1,h2=>by
  unfold Q8;by_cases e:i<j;have e1:decide ((i:Int)<(j:Int))=true:=by simp;omega
  have Y4:=X2 (i:=i) (j:=j) (by omega);obtain⟨x,hx,fQ⟩:=fA (l:=l) (show(i+j)/2<l.length by omega);have XW:=h.ok x fQ;have hc:=E_ n (x:=x) (f:=f) (by omega) (by omega);simp only[e1,zC,Y4,cO,hx,aO,hc];by_cases h3:x.Feat-f<0;have e2:IntKind.i64.wrap ((((i+j)/2:Nat):Int)+1)=(((i+j)/2+1:Nat):Int):=FJ (by omega) (by omega);simp only[h3,yC,zC,Es,e2];refine Aa h J hl hf n m ((i+j)/2+1) j (by omega) (by omega) hj (fun k y hy hk=>?_) h2;by_cases e3:k=(i+j)/2;subst e3;rw[hx]at hy;have:=Option.some.inj hy;subst this;omega;have:=h.up.lt hy hx (by omega);omega;simp only[h3,yB,zD,Es];refine Aa h J hl hf n m i ((i+j)/2) (by omega) (by omega) (by omega) h1 (fun k y hy hk=>?_);by_cases e3:k=(i+j)/2;subst e3;rw[hx]at hy;have:=Option.some.inj hy;subst this;omega;have:=h.up.lt hx hy (by omega);omega;have e0:i=j:=by omega
  subst e0;have e1:decide ((i:Int)<(i:Int))=false:=by simp
  have nY:At l f i:=⟨hj,h1,h2⟩;simp only[e1,zD,xi];by_cases aG:i<l.length;obtain⟨x,hx,fQ⟩:=fA aG;have XW:=h.ok x fQ;have hc:=E_ n (x:=x) (f:=f) (by omega) (by omega);simp only[j6 aG,zC,cO,hx,aO,hc];refine⟨i,_,rfl,nY,?_⟩;rw[beq_iff_eq];constructor;intro q;exact⟨x,hx,by omega⟩;rintro⟨y,hy,q⟩;rw[hx]at hy;have:=Option.some.inj hy;subst this;omega;simp only[jY aG,zD,aO];refine⟨i,false,rfl,nY,by simp,?_⟩;rintro⟨y,hy,_⟩;exact absurd (zG.1 hy).1 aG
def pk(p:Int×Int):gM:=⟨p.1,p.2⟩
theorem uw{N:Nat}{FB:Int}{a b:List aF}(ha:xS N FB a)(hb:xS N FB b)(J:FB<=1000000000)(MY:a.length<=20000)(hlb:b.length<=20000){n:Nat}(hn:60000<=n):∀(m k:Nat)(o:List aF),b.length-k<m->k<=b.length->pT a (b.take k) o->
  ∃o',W9 b n m (k:Int) ((prs a (b.take k)).map pk) o=some (o',(prs a b).map pk)/\pT a b o'
 |0,k,o,hm,_,_=>by omega
 |m+1,k,o,hm,hk,ho=>by
  unfold W9;have H5:=ho.len;have Fq:(b.take k).length<=20000:=by rw[List.length_take];omega
  by_cases aG:k<b.length;obtain⟨y,hy,ET⟩:=fA aG;have hyo:=hb.ok y ET;have hoo:=ho.ok ha ⟨hb.up.sublist (List.take_sublist k b),fun x hx=>hb.ok x (List.mem_of_mem_take hx)⟩;obtain⟨i,bb,s1,s2,s3⟩:=Aa hoo J (by omega) (f:=y.Feat) ⟨hyo.1,hyo.2.1⟩ n n 0 o.length (by omega) (by omega) (zF _) (fun k x _ h=>by omega) (fun k x hx h=>by have:=(zG.1 hx).1;omega);rw[zV]at s1;simp only[j6 aG,zC,cO,hy,aO,xh,s1];have ht:=j5 hy;cases bb with
  |true=>
   obtain⟨x,hx,e⟩:=s3.1 rfl;have fQ:=zX hx;have hxa:x∈a:=by
    rcases yD.1 (ho.pm.mem_iff.1 fQ)with h |h;exact h;exfalso;have h1:=(List.mem_filter.1 h).1;obtain⟨q,hq⟩:=List.mem_iff_getElem?.1 h1;have MW:q<k:=by have:=(zG.1 hq).1;rw[List.length_take]at this;omega
    rw[List.getElem?_take_of_lt MW]at hq;have:=hb.up.lt hq hy MW;omega
   have hp:=qul (b:=b.take k) ha.up.dis hxa e;have nF:(prs a (b.take k)).length<=20000:=by have:=Wq a (b.take k);omega
   simp only[zC,hx,aO,lE aG (show b.length<=9223372036854775807 by omega)];rw[aE,if_pos (by simp only[yA];omega)];have i9:=ho.inn hxa e;rw[<-ht]at hp i9;have:=uw ha hb J MY hlb hn m (k+1) o (by omega) (by omega) i9;rw[hp,List.map_append]at this;exact this
  |false=>
   have hJ:∀x,o[i]? = some x->x.Feat≠y.Feat:=fun x hx e=>by have:=s3.2 ⟨x,hx,e⟩;cases this
   have R2:∀z∈o.take i,z.Feat<y.Feat:=fun z hz=>by
    obtain⟨q,hq⟩:=List.mem_iff_getElem?.1 hz;have MW:q<i:=by have:=(zG.1 hq).1;rw[List.length_take]at this;omega
    rw[List.getElem?_take_of_lt MW]at hq;exact s2.lo q z hq MW
   have jk:∀z∈o.drop i,y.Feat<z.Feat:=fun z hz=>by
    obtain⟨q,hq⟩:=List.mem_iff_getElem?.1 hz;rw[List.getElem?_drop]at hq;have h1:=s2.hi (i+q) z hq (by omega);cases q with
    |zero=>have:=hJ z hq;omega|succ q=>obtain⟨x,hx,_⟩:=fA (l:=o) (show i<o.length by have:=(zG.1 hq).1;omega);have h2:=hoo.up.lt hx hq (by omega);have h3:=s2.hi i x hx (zF _);omega
   have jF:=ho.out R2 jk;have hna:∀x∈a,x.Feat≠y.Feat:=fun x hx e=>by have XW:x∈o:=ho.pm.mem_iff.2 (List.mem_append_left _ hx);rw[<-List.take_append_drop i o]at XW;rcases yD.1 XW with h |h;have:=R2 x h;omega;have:=jk x h;omega
   have hp:=qsv (b:=b.take k) hna;have hile:=s2.le;have da:wc n (i:Int) o y.Feat y.To=some (o.take i++y::o.drop i):=by rw[wc,aE,if_pos (by omega),zZ]
   simp only[zD,da,aO,lE aG (show b.length<=9223372036854775807 by omega)];rw[<-ht]at hp jF;have:=uw ha hb J MY hlb hn m (k+1) _ (by omega) (by omega) jF;rw[hp]at this;exact this
  have e:b.take k=b:=zW (by omega);rw[e]at ho ⊢;simp only[jY aG,zD,qw];exact⟨o,rfl,ho⟩
end Go.Proofs
namespace Go.Proofs
open Go Go.Rx Go.Vx Go.Shelf Go.Sort
set_option maxRecDepth 10000
abbrev Str:=List UInt8
theorem iO{X S R:Type}{l:List X}(hl:l.length<=9223372036854775807){F:Nat->Int->S->Option R}(I:Nat->S->Prop){Q:R->Prop}
  (h:∀(m i:Nat)(x:X)(s:S),l[i]? = some x->i<l.length->decide ((i:Int)<(l.length:Int))=true->IntKind.i64.wrap ((i:Int)+1)=((i+1:Nat):Int)->I i s->(∀s',I (i+1) s'->∃r,F m ((i+1:Nat):Int) s'=some r/\Q r)->∃r,F (m+1) (i:Int) s=some r/\Q r)
  (hK:∀(m:Nat)(s:S),decide ((l.length:Int)<(l.length:Int))=false->I l.length s->∃r,F (m+1) (l.length:Int) s=some r/\Q r):
  ∀(m i:Nat)(s:S),l.length-i<m->i<=l.length->I i s->∃r,F m (i:Int) s=some r/\Q r
 |0,i,s,hm,_,_=>by omega
 |m+1,i,s,hm,hi,hs=>by
  by_cases aG:i<l.length;obtain⟨x,hx,_⟩:=fA aG;exact h m i x s hx aG (j6 aG) (lE aG hl) hs fun s' tZ=>iO hl I h hK m (i+1) s' (by omega) (by omega) tZ;have:i=l.length:=by omega
  subst this;exact hK m s (jY (by omega)) hs
theorem kQ{H:Type}{p:Prop}[Decidable p]{k:Option H}(h:p):aE p k=k:=if_pos h
theorem ny{a b:Str}(h:a≠b):kO a b=false:=by
 rcases e:kO a b with _|_;rfl;exact absurd ((be _ _).1 e) h
theorem IB(a b:Str):kO a b=decide (a=b):=by
 by_cases h:a=b;rw[(be _ _).2 h];simp[h];rw[ny h];simp[h]
variable{X:Type}
variable{l:List X}
theorem D_{a b:Nat}(h1:a<=b)(h2:b<=l.length):pI l (a:Int) (b:Int)=some ((l.drop a).take (b-a)):=by
 unfold pI;have:0<=(a:Int)/\(a:Int)<=(b:Int)/\(b:Int)<=(l.length:Int):=by omega
 simp[this,List.drop_take]
theorem Uz{b:Nat}(h2:b<=l.length):pI l 0 (b:Int)=some (l.take b):=by
 have:=D_ (l:=l) (Nat.zero_le b) h2
 rwa [zV,List.drop_zero,Nat.sub_zero]at this
theorem Tx{a:Nat}(h2:a<=l.length):pI l (a:Int) (l.length:Int)=some (l.drop a):=by
 have:=D_ (l:=l) h2 (zF _)
 rwa [zW (by simp)]at this
theorem z7f(n:Nat)(z:Int)(b:Bool):∃r,Kw n z b=some r:=by
 simp only[Kw,VP,Ym,Ln];cases decide (z>=48)<;>cases decide (z<=57)<;>cases (z==45)<;>cases b<;>cases decide (z>=65)<;>cases decide (z<=90)<;>cases decide (z>=97)<;>cases decide (z<=122)<;>exact⟨_,rfl⟩
variable{s:Str}
theorem qx2{i:Nat}{x:UInt8}(h:s[i]? = some x):UL s (i:Int)=some (x.toNat:Int):=by
 have:=(zG.1 h).1;have h2:0<=(i:Int)/\(i:Int)<(s.length:Int):=by omega
 simp[UL,h2,h]
variable{n:Nat}
theorem qw8(s:Str)(b:Bool)(hn:40<=n):∃r,Da n s b=some r/\(r=true->0<s.length/\s.length<=32):=by
 unfold Da;by_cases h1:(s.length:Int)<1;simp only[h1,yC,zC,aO];exact⟨false,rfl,fun h=>by cases h⟩;by_cases h2:(s.length:Int)>32;simp only[h1,h2,yC,yB,zC,zD,aO];exact⟨false,rfl,fun h=>by cases h⟩;obtain⟨x,hx,_⟩:=fA (show 0<s.length by omega);have h3:=qx2 hx;rw[zV]at h3;have hd:∃r,VP n (x.toNat:Int)=some r:=by unfold VP;cases decide ((x.toNat:Int)>=48)<;>exact⟨_,rfl⟩
 obtain⟨c,hc⟩:=hd;have key:=iO (l:=s) (by omega) (F:=fun m z (_:Unit)=>W7 s b n m z) (fun _ _=>True) (Q:=fun r=>True)
  (fun m i x _ hx aG hd hw _ ih=>by obtain⟨r,hr⟩:=z7f n (x.toNat:Int) b;obtain⟨q,hq,_⟩:=ih () trivial;simp only[W7,hd,zC,qx2 hx,aO,hr,hw];rcases r with _|_;exact⟨_,rfl,trivial⟩;exact⟨q,hq,trivial⟩)
  (fun m _ hd _=>by simp only[W7,hd,zD,qt];exact⟨_,rfl,trivial⟩) n 0 () (by omega) (by omega) trivial
 obtain⟨q,hq,_⟩:=key;rw[zV]at hq;simp only[h1,h2,yB,zD,h3,aO,hc];cases c with
 |true=>simp only[zC,aO];exact⟨false,rfl,fun h=>by cases h⟩|false=>simp only[zD,aO];rcases((x.toNat:Int)==45)with _|_;exact⟨q,hq,fun _=>by omega⟩;exact⟨false,rfl,fun h=>by cases h⟩
theorem z_{d:List bG}(hd:d.length<=1000000){s:Str}:∀(m i:Nat),d.length-i<m->i<=d.length->
  (∃j x,i<=j/\d[j]? = some x/\x.Name=s/\(∀k y,i<=k->k<j->d[k]? = some y->y.Name≠s)/\VU d s m i=some (j:Int))\/((∀x∈d.drop i,x.Name≠s)/\VU d s m i=some (-1))
 |0,i,hm,_=>by omega
 |m+1,i,hm,hi=>by unfold VU;by_cases aG:i<d.length;obtain⟨x,hx,_⟩:=fA aG;simp only[j6 aG,zC,cO,hx,aO,lE aG (show d.length<=9223372036854775807 by omega),IB];by_cases hb:x.Name=s;simp only[hb,yC,zC];exact .inl ⟨i,x,zF _,hx,hb,fun k y h1 h2=>by omega,rfl⟩;simp only[hb,yB,zD];rcases z_ hd (s:=s) m (i+1) (by omega) (by omega)with⟨j,y,h1,h2,h3,h4,h5⟩|⟨h1,h2⟩;refine .inl ⟨j,y,by omega,h2,h3,fun k z hk1 ay hz=>?_,h5⟩;by_cases e:k=i;subst e;rw[hx]at hz;cases hz;exact hb;exact h4 k z (by omega) ay hz;refine .inr ⟨fun y hy=>?_,h2⟩;rw[aX hx]at hy;rcases zI.1 hy with rfl |hy;exact hb;exact h1 y hy;simp only[jY aG,zD,Zl,bY aG];exact .inr ⟨fun x hx=>(List.not_mem_nil hx).elim,by simp⟩
variable{d:List bG}
theorem LH(hd:d.length<=1000000)(s:Str)(hn:d.length<n):
  (∃(j:Nat)(x:bG),d[j]? = some x/\x.Name=s/\(∀k y,k<j->d[k]? = some y->y.Name≠s)/\G7 n d s=some (j:Int))\/((∀x∈d,x.Name≠s)/\G7 n d s=some (-1)):=by
 rcases z_ hd (s:=s) n 0 (by omega) (by omega)with⟨j,y,_,h2,h3,h4,h5⟩|⟨h1,h2⟩;exact .inl ⟨j,y,h2,h3,fun k z hk hz=>h4 k z (by omega) hk hz,h5⟩;exact .inr ⟨by rw[List.drop_zero]at h1;exact h1,h2⟩
theorem qyf{l:List Str}(hl:l.length<=1000000){s:Str}:∀(m i:Nat),l.length-i<m->i<=l.length->Dt l s m i=some (decide (s∈l.drop i))
 |0,i,hm,_=>by omega
 |m+1,i,hm,hi=>by unfold Dt;by_cases aG:i<l.length;obtain⟨x,hx,_⟩:=fA aG;simp only[j6 aG,zC,cO,hx,aO,aX hx,zI,lE aG (show l.length<=9223372036854775807 by omega),IB];by_cases e:x=s;simp[e];have e':¬ s=x:=fun h=>e h.symm;simp only[e,e',yB,zD,false_or];exact qyf hl m (i+1) (by omega) (by omega);simp only[jY aG,zD,qm,bY aG,List.not_mem_nil,yB]
variable{l:List Str}
theorem LM(hl:l.length<=1000000)(s:Str)(hn:l.length<n):EQ n l s=some (decide (s∈l)):=by
 have:=qyf hl (s:=s) n 0 (by omega) (by omega);rw[zV,List.drop_zero]at this;exact this
def eV(l:List Str):Prop:=l.Pairwise fun a b=>jN a b=true
theorem eV.nodup(h:eV l):l.Nodup:=h.imp fun{a b} h e=>by subst e;rw[qhs]at h;cases h
theorem d_(hl:l.length<=1000000)(ha:eV l){j:Nat}(hj:j<=l.length)(hb:∀x∈l.take j,jN x s=true)(hx:∀x,l[j]? = some x->jN x s=false):∃out,Lw l s j=some out/\(∀x,x∈out↔x=s\/x∈l)/\out.length<=l.length+1/\eV out:=by
 unfold Lw;have tl:(l.take j).length=j:=by simp;omega
 have dl:(l.drop j).length=l.length-j:=by simp
 have ins:(∀x∈l.drop j,jN s x=true)->∃out,(a8 (pI l 0 (j:Int)) fun iI=>
  aE (iI.length*16<=140737488355328/\iI.length<=140737488355328) (
  aE ((iI.length+1)*16<=140737488355328/\iI.length+1<=140737488355328) (
  a8 (pI l (j:Int) (l.length:Int)) fun dI=>
  aE (((iI++[s]).length+dI.length)*16<=140737488355328/\(iI++[s]).length+dI.length<=140737488355328) (
  some ((iI++[s])++dI)))))=some out/\(∀x,x∈out↔x=s\/x∈l)/\out.length<=l.length+1/\eV out:=by
  intro hd;refine⟨(l.take j++[s])++l.drop j,?_,fun x=>?_,by simp;omega,?_⟩;rw[Uz hj,aO,kQ (by rw[tl];omega),kQ (by rw[tl];omega),Tx hj,aO,kQ (by rw[zU,tl,dl];simp;omega)];have:=List.take_append_drop j l;constructor;intro h;simp only[yD,List.mem_singleton]at h;rcases h with(h |h)|h;exact .inr (List.mem_of_mem_take h);exact .inl h;exact .inr (List.mem_of_mem_drop h);rintro(h |h);simp[h];rw[<-this]at h;simp only[yD]at h ⊢;rcases h with h |h;exact .inl (.inl h);exact .inr h;unfold eV at*;rw[<-List.take_append_drop j l,List.pairwise_append]at ha;rw[List.pairwise_append,List.pairwise_append];refine⟨⟨ha.1,by simp,fun a h1 b h2=>by simp at h2;subst h2;exact hb a h1⟩,ha.2.1,fun a h1 b h2=>?_⟩;rcases yD.1 h1 with h1 |h1;exact ha.2.2 a h1 b h2;simp at h1;subst h1;exact hd b h2
 by_cases aG:j<l.length;obtain⟨x,xr,fQ⟩:=fA aG;have h1:=hx x xr;simp only[j6 aG,zC,cO,xr,aO,IB];by_cases e:x=s;subst e;simp only[yC,zC];exact⟨l,rfl,fun y=>⟨fun h=>.inr h,fun h=>h.elim (fun h=>h ▸ fQ) id⟩,by omega,ha⟩;simp only[e,yB,zD];have h2:jN s x=true:=by rcases h3:jN s x with _|_;exact absurd (qiw x s h1 h3) e;rfl
 refine ins fun y hy=>?_;rw[aX xr]at hy;rcases zI.1 hy with rfl |hy
 exact h2;have:l=l.take (j+1)++l.drop (j+1):=(List.take_append_drop _ _).symm;unfold eV at ha;rw[this,List.pairwise_append]at ha;exact qix _ _ _ h2 (ha.2.2 x (by rw[j5 xr];simp) y hy);simp only[jY aG,zD,aO];exact ins fun y hy=>by rw[bY aG]at hy;cases hy
theorem Q9{l:List Str}(hl:l.length<=1000000)(ha:eV l){s:Str}:∀(m i:Nat),l.length-i<m->i<=l.length->(∀x∈l.take i,jN x s=true)->∃out,Dh l s m i=some out/\(∀x,x∈out↔x=s\/x∈l)/\out.length<=l.length+1/\eV out
 |0,i,hm,_,_=>by omega
 |m+1,i,hm,hi,hb=>by
  unfold Dh;by_cases aG:i<l.length;obtain⟨x,hx,_⟩:=fA aG;simp only[j6 aG,zC,cO,hx,aO,lE aG (show l.length<=9223372036854775807 by omega)];cases hbl:jN x s with
  |true=>
   simp only[zC];refine Q9 hl ha m (i+1) (by omega) (by omega) fun y hy=>?_;rw[j5 hx]at hy;rcases yD.1 hy with hy |hy
   exact hb y hy;simp at hy;subst hy;exact hbl
  |false=>simp only[zD];exact d_ hl ha hi hb fun y hy=>by rw[hx]at hy;cases hy;exact hbl
  simp only[jY aG,zD,aO];exact d_ hl ha hi hb fun y hy=>by have:=(zG.1 hy).1;omega
theorem Bn(hl:l.length<=1000000)(ha:eV l)(s:Str)(hn:l.length<n):∃out,LO n l s=some out/\(∀x,x∈out↔x=s\/x∈l)/\out.length<=l.length+1/\eV out:=by
 have:=Q9 hl ha (s:=s) n 0 (by omega) (by omega) (by simp);rw[zV]at this;exact this
structure w7(l0 l:List Str)(out:List Str):Prop where
 mem:∀x,x∈out↔x∈l0\/x∈l
 len:out.length<=l0.length+l.length
 asc:eV out
theorem w7.next{l0 out MJ:List Str}(h:w7 l0 l out)(h1:∀x,x∈MJ↔x=s\/x∈out)(h2:MJ.length<=out.length+1)(h3:eV MJ):w7 l0 (l++[s]) MJ:=by
 refine⟨fun x=>?_,by have:=h.len;simp;omega,h3⟩;rw[h1,h.mem];simp only[yD,List.mem_singleton];constructor;rintro(h |h |h);exact .inr (.inr h);exact .inl h;exact .inr (.inl h);rintro(h |h |h);exact .inr (.inl h);exact .inr (.inr h);exact .inl h
theorem w7.nil(h:eV l):w7 l [] l:=⟨fun x=>by simp,by simp,h⟩
theorem names_ok(hd:d.length<=1000)(hn:5000<=n):∃out,Li n d=some out/\w7 [] (d.map bG.Name) out:=by
 have:=iO (l:=d) (by omega) (F:=fun m z s=>W6 d n m s z) (fun i s=>w7 [] ((d.take i).map bG.Name) s) (Q:=fun out=>w7 [] (d.map bG.Name) out)
  (fun m i x s hx aG bD hw hI ih=>by have hl:=hI.len;simp at hl;obtain⟨o,h1,h2,h3,h4⟩:=Bn (l:=s) (by omega) hI.asc x.Name (show s.length<n by omega);simp only[W6,bD,zC,cO,hx,aO,h1,hw];exact ih o (by rw[j5 hx,List.map_append];exact hI.next h2 h3 h4))
  (fun m s bD hI=>by simp only[W6,bD,zD,qh];rw[zW (zF _)]at hI;exact⟨s,rfl,hI⟩) n 0 [] (by omega) (by omega) (w7.nil List.Pairwise.nil)
 rw[zV]at this;exact this
theorem z4k(hd:d.length<=12)(hn:5000<=n):∃e,Lh n d=some e/\(e=0->∀x∈d,x.Supers.length<=256/\x.Feats.length<=256):=by
 have:=iO (l:=d) (by omega) (F:=fun m z (_:Unit)=>W3 d m z) (fun i _=>∀x∈d.take i,x.Supers.length<=256/\x.Feats.length<=256) (Q:=fun e=>e=0->∀x∈d,x.Supers.length<=256/\x.Feats.length<=256)
  (fun m i x _ hx aG bD hw hI ih=>by
   simp only[W3,bD,zC,cO,hx,aO,hw];by_cases h1:(x.Supers.length:Int)>256;simp only[h1,yC,zC,aO];exact⟨7,rfl,fun h=>by cases h⟩;by_cases h2:(x.Feats.length:Int)>256;simp only[h1,h2,yC,yB,zC,zD,aO];exact⟨7,rfl,fun h=>by cases h⟩;simp only[h1,h2,yB,zD,aO];refine ih () fun y hy=>?_;rw[j5 hx]at hy;rcases yD.1 hy with hy |hy
   exact hI y hy;simp at hy;subst hy;omega)
  (fun m _ bD hI=>by simp only[W3,bD,zD,qc];rw[zW (zF _)]at hI;exact⟨0,rfl,fun _=>hI⟩) n 0 () (by omega) (by omega) (by simp)
 rw[zV]at this;have h:¬ (d.length:Int)>256:=by omega
 simp only[Lh,h,yB,zD];exact this
theorem z7a(s:Str)(hn:40<=n):∃r,Kx n s=some r/\(r=true->0<s.length/\s.length<=32):=by
 obtain⟨r,h1,h2⟩:=qw8 s false hn;exact⟨r,by simp[Kx,h1,aO],h2⟩
structure Ja(d:List bG):Prop where
 nod:(d.map bG.Name).Nodup
 len:∀x∈d,0<x.Name.length/\x.Name.length<=32
theorem qz2(hd:d.length<=12)(hn:5000<=n):∃e,Yk n d=some e/\(e=0->Ja d):=by
 have:=iO (l:=d) (by omega) (F:=fun m z (_:Unit)=>W5 d n m z) (fun i _=>Ja (d.take i)) (Q:=fun e=>e=0->Ja d)
  (fun m i x _ hx aG bD hw hI ih=>by obtain⟨r,h1,h2⟩:=z7a x.Name (show 40<=n by omega);simp only[W5,bD,zC,cO,hx,aO,hw,h1];rcases r with _|_;exact⟨1,rfl,fun h=>by cases h⟩;simp only[Bool.not_true,zD];rcases LH (d:=d) (by omega) x.Name (show d.length<n by omega)with⟨j,y,g1,g2,g3,g4⟩|⟨g1,g2⟩;simp only[g4,aO];by_cases hj:(j:Int)<(i:Int);simp only[hj,yC,zC];exact⟨4,rfl,fun h=>by cases h⟩;simp only[hj,yB,zD];refine ih () ?_;rw[j5 hx];refine⟨?_,fun z hz=>?_⟩;rw[List.map_append,List.nodup_append];refine⟨hI.nod,by simp,fun a ha b hb e=>?_⟩;simp at hb;subst hb;obtain⟨z,hz,e2⟩:=List.mem_map.1 ha;obtain⟨k,hk,e3⟩:=List.mem_iff_getElem.1 hz;rw[List.length_take]at hk;rw[List.getElem_take]at e3;exact g3 k z (by omega) (by rw[List.getElem?_eq_getElem (by omega),e3]) (e2.trans e);rcases yD.1 hz with hz |hz;exact hI.len z hz;simp at hz;subst hz;exact h2 rfl;exact absurd rfl (g1 x (zX hx)))
  (fun m _ bD hI=>by simp only[W5,bD,zD,qe];rw[zW (zF _)]at hI;exact⟨0,rfl,fun _=>hI⟩) n 0 () (by omega) (by omega) ⟨by simp,by simp⟩
 rw[zV]at this;exact this
def kI(d:List bG)(s:Str):Prop:=∃x∈d,x.Name=s
theorem sb(hd:d.length<=1000000)(h:kI d s)(hn:d.length<n):∃(j:Nat)(x:bG),d[j]? = some x/\x.Name=s/\G7 n d s=some (j:Int):=by
 rcases LH hd s hn with⟨j,x,h1,h2,_,h4⟩|⟨h1,_⟩;exact⟨j,x,h1,h2,h4⟩;obtain⟨x,hx,e⟩:=h;exact absurd e (h1 x hx)
def IF(d:List bG)(x:bG):Prop:=(∀s∈x.Supers,kI d s)/\x.Supers.Nodup
theorem z1y(hd:d.length<=12)(hs:∀x∈d,x.Supers.length<=256)(hn:5000<=n):∃e,Yu n d=some e/\(e=0->∀x∈d,IF d x):=by
 have:=iO (l:=d) (by omega) (F:=fun m z (_:Unit)=>JT d n m z) (fun i _=>∀x∈d.take i,IF d x) (Q:=fun e=>e=0->∀x∈d,IF d x)
  (fun m i x _ hx aG bD hw hI ih=>by
   have fQ:=zX hx;have hxs:=hs x fQ;simp only[JT,bD,zC,cO,hx,aO];have:=iO (l:=x.Supers) (by omega) (F:=fun m' z (_:Unit)=>WB d n i (JT d n m) x m' z) (fun k _=>(∀s∈x.Supers.take k,kI d s)/\(x.Supers.take k).Nodup) (Q:=fun e=>e=0->∀x∈d,IF d x)
    (fun m' k s _ hsx qU d6 yY iT kC=>by
     simp only[WB,d6,zC,cO,hsx,aO,yY];rcases LH (d:=d) (by omega) s (show d.length<n by omega)with⟨j,y,g1,g2,g3,g4⟩|⟨g1,g2⟩;have hj:¬ (j:Int)<0:=by omega
     have A6:=LM (l:=x.Supers.take k) (by simp;omega) s (n:=n) (by simp;omega);simp only[g4,aO,hj,yB,zD,Uz (show k<=x.Supers.length by omega),A6];by_cases hm:s∈x.Supers.take k;simp only[hm,yC,zC];exact⟨4,rfl,fun h=>by cases h⟩;simp only[hm,yB,zD];refine kC () ?_;rw[j5 hsx];refine⟨fun t ht=>?_,?_⟩;rcases yD.1 ht with ht |ht;exact iT.1 t ht;simp at ht;subst ht;exact⟨y,zX g1,g2⟩;rw[List.nodup_append];exact⟨iT.2,by simp,fun a ha b hb e=>by simp at hb;subst hb;subst e;exact hm ha⟩;simp only[g2,aO];exact⟨5,rfl,fun h=>by cases h⟩)
    (fun m' _ d6 iT=>by
     simp only[WB,d6,zD,zg,hw];rw[zW (zF _)]at iT;refine ih () fun y hy=>?_;rw[j5 hx]at hy;rcases yD.1 hy with hy |hy
     exact hI y hy;simp at hy;subst hy;exact iT) n 0 () (by omega) (by omega) ⟨by simp,by simp⟩
   rw[zV]at this;exact this)
  (fun m _ bD hI=>by simp only[JT,bD,zD,zh];rw[zW (zF _)]at hI;exact⟨0,rfl,fun _=>hI⟩) n 0 () (by omega) (by omega) (by simp)
 rw[zV]at this;exact this
theorem z4h{x:bG}(hs:x.Supers.length<=256)(hl:l.length<=1000)(hn:5000<=n):Yj n x l=some (decide (∀s∈x.Supers,s∈l)):=by
 have:=iO (l:=x.Supers) (by omega) (F:=fun m z (_:Unit)=>W4 x l n m z) (fun i _=>∀s∈x.Supers.take i,s∈l) (Q:=fun b=>b=decide (∀s∈x.Supers,s∈l))
  (fun m i s _ hx aG bD hw hI ih=>by
   simp only[W4,bD,zC,cO,hx,aO,hw,LM (l:=l) (by omega) s (n:=n) (by omega)];by_cases hm:s∈l;simp only[hm,yC,Bool.not_true,zD];refine ih () fun t ht=>?_;rw[j5 hx]at ht;rcases yD.1 ht with ht |ht
   exact hI t ht;simp at ht;subst ht;exact hm;simp only[hm,yB,Bool.not_false,zC];exact⟨false,rfl,(decide_eq_false fun h=>hm (h s (zX hx))).symm⟩)
  (fun m _ bD hI=>by simp only[W4,bD,zD,qd];rw[zW (zF _)]at hI;exact⟨true,rfl,(decide_eq_true hI).symm⟩) n 0 () (by omega) (by omega) (by simp)
 rw[zV]at this;obtain⟨r,h1,h2⟩:=this;rw[<-h2];exact h1
inductive Ord(d:List bG):List Str->Prop
 |nil:Ord d []
 |snoc {l:List Str} {x:bG}:Ord d l->x∈d->x.Name ∉ l->(∀s∈x.Supers,s∈l)->Ord d (l++[x.Name])
theorem Ord.nodup(h:Ord d l):l.Nodup/\∀s∈l,kI d s:=by
 induction h with|nil=>simp| @snoc l x h1 h2 h3 h4 ih=>refine⟨?_,fun s hs=>?_⟩;rw[List.nodup_append];exact⟨ih.1,by simp,fun a ha b hb e=>by simp at hb;subst hb;subst e;exact h3 ha⟩;rcases yD.1 hs with hs |hs;exact ih.2 s hs;simp at hs;subst hs;exact⟨x,h2,rfl⟩
theorem Ki:∀{a b:List Str},a.Nodup->(∀x∈a,x∈b)->a.length<=b.length
 |[],b,_,_=>by simp
 |x::a,b,hn,hs=>by
  obtain⟨h1,h2⟩:=List.nodup_cons.1 hn;have h3:=Ki (b:=b.erase x) h2 fun y hy=>by have:y≠x:=fun e=>h1 (e ▸ hy);exact(List.mem_erase_of_ne this).2 (hs y (List.mem_cons_of_mem x hy))
  have h4:=List.length_erase_of_mem (hs x (by simp));have h5:=List.length_pos_of_mem (hs x (by simp));simp only[zO];omega
theorem Ord.len(h:Ord d l):l.length<=d.length:=by
 have:=Ki (b:=d.map bG.Name) h.nodup.1 fun s hs=>by obtain⟨x,hx,rfl⟩:=h.nodup.2 s hs;exact List.mem_map_of_mem hx
 rwa [yA]at this
theorem z0t(hd:d.length<=12)(hs:∀x∈d,x.Supers.length<=256)(hn:5000<=n):∃l,Yv n d=some l/\Ord d l:=by
 have key:∀(m:Nat)(b:Bool)(l:List Str),d.length-l.length+2<=m+(cond b 0 1)->Ord d l->∃r,GA d n m b l=some r/\Ord d r:=by
  intro m;induction m with
  |zero=>intro b l hm;cases b<;>simp at hm<;>omega|succ m ih=>
   intro b l hm hl;have A3:=hl.len;unfold GA;rcases b with _|_;simp only[zD,zj];exact⟨l,rfl,hl⟩;simp only[zC]at hm ⊢;have:=iO (l:=d) (by omega) (F:=fun m' z (s:Bool×Str)=>JU d n l (GA d n m) m' s.1 s.2 z) (fun i s=>s.1=true->∃x∈d,x.Name=s.2/\x.Name ∉ l/\∀t∈x.Supers,t∈l) (Q:=fun r=>Ord d r)
    (fun m' i x s hx aG bD hw hI kC=>by
     have fQ:=zX hx;simp only[JU,bD,zC,cO,hx,aO,hw,LM (l:=l) (by omega) x.Name (n:=n) (by omega),z4h (hs x fQ) (show l.length<=1000 by omega) hn];by_cases h1:x.Name∈l;simp only[h1,yC,zC,aO];exact kC (s.1,s.2) hI;by_cases h2:∀t∈x.Supers,t∈l;have e1:decide (∀t∈x.Supers,t∈l)=true:=decide_eq_true h2;simp only[h1,e1,yB,zD,Bool.not_true,aO,My,hw];have gY:∃y∈d,y.Name=x.Name/\y.Name ∉ l/\∀t∈y.Supers,t∈l:=⟨x,fQ,rfl,h1,h2⟩;cases hb:s.1 with
     |false=>simp only[Bool.not_false,zC,aO];exact kC (true,x.Name) fun _=>gY
     |true=>
      simp only[Bool.not_true,zD,aO];cases jN x.Name s.2 with
      |true=>simp only[zC];exact kC (true,x.Name) fun _=>gY
      |false=>simp only[zD];exact kC (true,s.2) fun _=>hI hb
     have e1:decide (∀t∈x.Supers,t∈l)=false:=decide_eq_false h2;simp only[h1,e1,yB,zD,Bool.not_false,aO,zC];exact kC (s.1,s.2) hI)
    (fun m' s bD hI=>by
     simp only[JU,bD,zD,zi,Mz];rcases hb:s.1 with _|_;simp only[zD];exact ih false l (by simp;omega) hl;obtain⟨x,hx,e,h1,h2⟩:=hI hb;have hl2:Ord d (l++[s.2]):=by rw[<-e];exact .snoc hl hx h1 h2
     have:=hl2.len;simp only[zU,zO,zS]at this;simp only[zC];rw[kQ (by omega)];exact ih true (l++[s.2]) (by simp;omega) hl2) n 0 (false,[]) (by omega) (by omega) (fun h=>by cases h)
   rw[zV]at this;exact this
 exact key n true [] (by simp;omega) .nil
structure xA(d:List bG):Prop where
 len:d.length<=12
 siz:∀x∈d,x.Supers.length<=256/\x.Feats.length<=256
 nam:Ja d
 sup:∀x∈d,IF d x
 ord:∃l,Ord d l/\l.length=d.length
 one:(d.filter fun x=>decide (x.Supers=[])).length=1
theorem qyx(hd:d.length<=12)(hn:5000<=n):∃e,Lj n d=some e/\(e=0->xA d):=by
 obtain⟨e1,a1,a2⟩:=z4k hd hn;simp only[Lj,a1,aO];by_cases h1:e1=0;subst h1;have a3:=a2 rfl;obtain⟨e2,b1,b2⟩:=qz2 hd hn;simp only[bne_self_eq_false,zD,b1,aO];by_cases h2:e2=0;subst h2;obtain⟨e3,c1,c2⟩:=z1y hd (fun x hx=>(a3 x hx).1) hn;simp only[bne_self_eq_false,zD,c1,aO];by_cases h3:e3=0;subst h3;simp only[bne_self_eq_false,zD];have:=iO (l:=d) (by omega) (F:=fun m z (s:Int)=>M6 d n m s z) (fun i s=>s=(((d.take i).filter fun x=>decide (x.Supers=[])).length:Int)) (Q:=fun e=>e=0->xA d)
  (fun m i x s hx aG bD hw hI ih=>by
   have DA:=List.length_filter_le (fun x:bG=>decide (x.Supers=[])) (d.take i);rw[List.length_take]at DA;simp only[M6,bD,zC,cO,hx,aO,Mn,hw];by_cases hz:x.Supers=[];have e0:((x.Supers.length:Int)==0)=true:=by simp[hz]
   have e1:IntKind.i64.wrap (s+1)=s+1:=wr (by omega) (by omega);simp only[e0,zC,e1];refine ih (s+1) ?_;rw[j5 hx,List.filter_append,zU,hI];simp[hz];have e0:((x.Supers.length:Int)==0)=false:=by simp[List.length_eq_zero_iff,hz]
   simp only[e0,zD];refine ih s ?_;rw[j5 hx,List.filter_append,zU,hI];simp[hz])
  (fun m s bD hI=>by
   rw[zW (zF _)]at hI;simp only[M6,bD,zD,qi];by_cases h4:s=1;obtain⟨l,g1,g2⟩:=z0t hd (fun x hx=>(a3 x hx).1) hn;have hl:=g2.len;simp only[h4,bne_self_eq_false,zD,g1,aO];by_cases h5:(l.length:Int)<(d.length:Int);simp only[h5,yC,zC];exact⟨6,rfl,fun h=>by cases h⟩;simp only[h5,yB,zD];exact⟨0,rfl,fun _=>⟨hd,a3,b2 rfl,c2 rfl,⟨l,g2,by omega⟩,by omega⟩⟩;have e4:(s != 1)=true:=by simpa using h4
   simp only[e4,zC];exact⟨1,rfl,fun h=>by cases h⟩) n 0 0 (by omega) (by omega) (by simp)
 rw[zV]at this;exact this;have e4:(e3 != 0)=true:=by simpa using h3
 simp only[e4,zC];exact⟨e3,rfl,fun h=>absurd h h3⟩;have e4:(e2 != 0)=true:=by simpa using h2
 simp only[e4,zC];exact⟨e2,rfl,fun h=>absurd h h2⟩;have e4:(e1 != 0)=true:=by simpa using h1
 simp only[e4,zC];exact⟨e1,rfl,fun h=>absurd h h1⟩
variable{a:Nat}
theorem wu(h:a<18446744073709551616):IntKind.u64.wrap (a:Int)=(a:Int):=by
 simp only[IntKind.wrap,IntKind.bits,IntKind.signed];simp;omega
variable{b:Nat}
theorem Ao(ha:a<18446744073709551616)(hb:b<18446744073709551616):FT .u64 (a:Int) (b:Int)=((a&&&b:Nat):Int):=by
 have h:(BitVec.ofInt 64 (a:Int)&&&BitVec.ofInt 64 (b:Int)).toNat=a&&&b:=by simp only[BitVec.ofInt_natCast,BitVec.toNat_and,BitVec.toNat_ofNat];rw[Nat.mod_eq_of_lt ha,Nat.mod_eq_of_lt hb]
 show IntKind.u64.wrap (((BitVec.ofInt 64 (a:Int)&&&BitVec.ofInt 64 (b:Int)).toNat:Nat):Int)=_;rw[h];exact wu (Nat.lt_of_le_of_lt Nat.and_le_left ha)
theorem orN(ha:a<18446744073709551616)(hb:b<18446744073709551616):Et .u64 (a:Int) (b:Int)=((a|||b:Nat):Int):=by
 have h:(BitVec.ofInt 64 (a:Int)|||BitVec.ofInt 64 (b:Int)).toNat=a|||b:=by simp only[BitVec.ofInt_natCast,BitVec.toNat_or,BitVec.toNat_ofNat];rw[Nat.mod_eq_of_lt ha,Nat.mod_eq_of_lt hb]
 show IntKind.u64.wrap (((BitVec.ofInt 64 (a:Int)|||BitVec.ofInt 64 (b:Int)).toNat:Nat):Int)=_;rw[h];exact wu (Nat.or_lt_two_pow (n:=64) ha hb)
theorem Om(ha:a<18446744073709551616)(hb:b<18446744073709551616):∃c:Nat,PI .u64 (a:Int) (b:Int)=(c:Int)/\(c=0↔a&&&b=a):=by
 refine⟨(BitVec.ofInt 64 (a:Int) &&& ~~~ BitVec.ofInt 64 (b:Int)).toNat,?_,?_⟩;exact wu (BitVec.isLt _);have h1:(BitVec.ofInt 64 (a:Int)&&&BitVec.ofInt 64 (b:Int)).toNat=a&&&b:=by simp only[BitVec.ofInt_natCast,BitVec.toNat_and,BitVec.toNat_ofNat];rw[Nat.mod_eq_of_lt ha,Nat.mod_eq_of_lt hb]
 have h2:(BitVec.ofInt 64 (a:Int)).toNat=a:=by simp only[BitVec.ofInt_natCast,BitVec.toNat_ofNat];exact Nat.mod_eq_of_lt ha
 generalize BitVec.ofInt 64 (a:Int)=x at*;generalize BitVec.ofInt 64 (b:Int)=y at*;rw[<-h1];constructor;intro h;have h3:x &&& ~~~ y=0#64:=BitVec.eq_of_toNat_eq (by simpa using h);have:x&&&y=x:=by ext i hi;have:=congrArg (fun z=>z.getLsbD i) h3;simp[hi]at this ⊢;intro hx;exact this hx
 rw[this,h2];intro h;have h3:x&&&y=x:=BitVec.eq_of_toNat_eq (by rw[h,h2]);have:x &&& ~~~ y=0#64:=by ext i hi;have:=congrArg (fun z=>z.getLsbD i) h3;simp[hi]at this ⊢;intro hx;exact this hx
 rw[this];rfl
def bt(w:Nat):List Int:=if w=0 then[]else[(w:Int)]
theorem SY:bt 0=[]:=rfl
variable{w:Nat}
theorem rY(h:w≠0):bt w=[(w:Int)]:=if_neg h
theorem z6l:((bt w).length:Int)=0↔w=0:=by
 by_cases h:w=0;simp[h,bt];simp[h,bt]
theorem yf{w:Nat}{k:Nat}(hk:k<=1000):∀(j m:Nat),j<=k->j+2<=m->Q2 ((w:Int)::List.replicate k 0) m ((j+1:Nat):Int)=some (bt w)
 |0,0,_,h=>by omega
 |0,1,_,h=>by omega
 |0,m+2,_,_=>by
  have e0:IntKind.i64.wrap (((0+1:Nat):Int)-1)=0:=wr (z:=0) (by omega) (by omega);have e1:aB ((w:Int)::List.replicate k 0) 0=some (w:Int):=by simp[aB]
  have e2:decide (((0+1:Nat):Int)>0)=true:=by simp
  have c0:=Uz (l:=(w:Int)::List.replicate k 0) (b:=0) (by simp);have c1:=Uz (l:=(w:Int)::List.replicate k 0) (b:=1) (by simp);rw[zV,List.take_zero]at c0;rw[Q2,e2,e0,zC,e1,aO,aO];by_cases hw:w=0;have:((w:Int)==0)=true:=by simp[hw]
  rw[this,zC,Q2];simp only[Int.lt_irrefl,yB,zD,aO,Na,c0,show((0:Int)>0)=False by simp];rw[kQ (by simp),hw,SY];have:((w:Int)==0)=false:=by simp[hw]
  rw[this,zD,Na,show((0+1:Nat):Int)=((1:Nat):Int) by simp,c1,aO,kQ (by simp),rY hw];rfl
 |j+1,m,hj,hm=>by
  obtain⟨m,rfl⟩:∃q,m=q+1:=⟨m-1,by omega⟩;have e0:IntKind.i64.wrap (((j+1+1:Nat):Int)-1)=((j+1:Nat):Int):=FJ (by omega) (by omega);have e1:aB ((w:Int)::List.replicate k 0) ((j+1:Nat):Int)=some 0:=by rw[cO,zH,List.getElem?_replicate,if_pos (by omega)]
  have e2:decide (((j+1+1:Nat):Int)>0)=true:=by simp;omega
  rw[Q2,e2,e0,zC,e1,aO,aO];exact yf hk j m (by omega) (by omega)
variable{n:Nat}
theorem yd(hn:5<=n):JL n [(w:Int)]=some (bt w):=yf (k:=0) (by omega) 0 n (by omega) (by omega)
theorem ye(hn:5<=n):JL n []=some []:=by
 obtain⟨k,rfl⟩:=Nat.exists_eq_add_of_le' hn;rfl
theorem z7b(hn:5<=n):JL n (bt w)=some (bt w):=by
 by_cases h:w=0;subst h;exact ye hn;rw[rY h,yd hn,rY h]
theorem Q_(b n:Nat):VK n (bt b) 0=some (b:Int):=by
 by_cases h:b=0;subst h;rfl;rw[rY h];rfl
theorem K_(ha:a<4096)(hb:b<4096)(hn:5<=n):VI n (bt a) (bt b)=some (bt (a&&&b)):=by
 obtain⟨k,rfl⟩:=Nat.exists_eq_add_of_le' hn;by_cases h:a=0;subst h;rw[Nat.zero_and];have:=ye (n:=k+5) hn;simp only[VI,SY,Lx,zS,Di,this,aO];rfl;have h1:=Ao (a:=a) (b:=b) (by omega) (by omega);have h2:=yd (w:=a&&&b) (n:=k+5) hn;have e:VI (k+5) [(a:Int)] (bt b)=a8 (VK (k+5) (bt b) 0) fun i7=>aE ((0+1)*8<=140737488355328/\0+1<=140737488355328) (Di (k+5) [FT .u64 (a:Int) i7]):=rfl;rw[rY h,e,Q_,aO,kQ (by omega),Di,h1,h2];rfl
theorem z3y(ha:a<4096)(hb:b<4096)(hn:5<=n):∃c:Nat,Cy n (bt a) (bt b)=some (bt c)/\(c=0↔a&&&b=a):=by
 obtain⟨k,rfl⟩:=Nat.exists_eq_add_of_le' hn;by_cases h:a=0;subst h;have:=ye (n:=k+5) hn;refine⟨0,?_,by simp⟩;simp only[Cy,SY,Mr,zS,Du,this,aO];rfl;obtain⟨c,h1,h3⟩:=Om (a:=a) (b:=b) (by omega) (by omega);have h2:=yd (w:=c) (n:=k+5) hn;have e:Cy (k+5) [(a:Int)] (bt b)=a8 (VK (k+5) (bt b) 0) fun i7=>aE ((0+1)*8<=140737488355328/\0+1<=140737488355328) (Du (k+5) [PI .u64 (a:Int) i7]):=rfl;refine⟨c,?_,h3⟩;rw[rY h,e,Q_,aO,kQ (by omega),Du,h1,h2];rfl
theorem su(ha:a<4096)(hb:b<4096)(hn:5<=n):VR n (bt a) (bt b)=some (decide (a&&&b=a)):=by
 obtain⟨c,h1,h2⟩:=z3y ha hb hn;rw[VR,h1,aO];congr 1;rw[Bool.eq_iff_iff,beq_iff_eq,z6l,h2,decide_eq_true_eq]
theorem Xi(ha:a<4096)(hb:b<4096)(hn:5<=n):Lm n (bt a) (bt b)=some (decide (a=b)):=by
 simp only[Lm,su ha hb hn,su hb ha hn,aO];by_cases h:a&&&b=a;by_cases h':b&&&a=b;have:a=b:=by rw[<-h,Nat.and_comm,h']
 simp[h,h',this,aO];have:a≠b:=fun e=>h' (by rw[<-e,Nat.and_self]);simp[h,h',this,aO];have:a≠b:=fun e=>h (by rw[<-e,Nat.and_self]);simp[h,this,aO]
theorem u_{i:Nat}(hw:w<4096)(hi:i<64):Cp n (bt w) (i:Int)=some (w.testBit i):=by
 have e0:decide ((i:Int)<0)=false:=by simp
 have e1:(i:Int).tdiv 64=0:=by rw[Int.tdiv_eq_ediv_of_nonneg (by omega)];omega
 have e2:IntKind.i64.wrap 0=0:=wr (by omega) (by omega);simp only[Cp,e0,zD,aO,e1,e2];by_cases h:w=0;subst h;simp[SY];have e3:decide ((0:Int)>=((bt w).length:Int))=false:=by rw[rY h];simp
 have e4:aB (bt w) 0=some (w:Int):=by rw[rY h];rfl
 have e5:(i:Int).tmod 64=(i:Int):=by rw[Int.tmod_eq_emod_of_nonneg (by omega)];omega
 have e6:IntKind.u64.wrap (i:Int)=(i:Int):=wu (by omega);have e7:min ((i:Int).toNat) IntKind.u64.bits=i:=by rw[zZ];exact Nat.min_eq_left (by show i<=64;omega)
 have e8:(w:Int).fdiv (2^i)=((w/2^i:Nat):Int):=by rw[show(2:Int)^i=((2^i:Nat):Int) by simp,Int.fdiv_eq_ediv_of_nonneg _ (Int.natCast_nonneg _)];rfl
 have aG:w/2^i<18446744073709551616:=Nat.lt_of_le_of_lt (Nat.div_le_self _ _) (by omega);have e9:=Ao (a:=w/2^i) (b:=1) aG (by omega);rw[show((1:Nat):Int)=1 from rfl]at e9;simp only[e3,zD,e4,aO,e5,e6];rw[kQ (by omega),e7,e8,e9];congr 1;rw[Bool.eq_iff_iff,beq_iff_eq,Nat.testBit_eq_decide_div_mod_eq,decide_eq_true_eq,Nat.and_one_is_mod];omega
def bl(w:Nat):List Int:=((List.range 64).filter fun i=>w.testBit i).map fun(i:Nat)=>(i:Int)
theorem z75(hw:w<4096)(hn:100<=n):Xy n (bt w)=some (bl w):=by
 by_cases h:w=0;subst h;obtain⟨k,rfl⟩:=Nat.exists_eq_add_of_le' hn;have e:bl 0=[]:=by simp[bl]
 rw[e];rfl;have pQ:IntKind.i64.wrap (64*((bt w).length:Int))=((List.range 64).length:Int):=by rw[rY h,List.length_range];exact wr (by simp) (by simp)
 have:=iO (l:=List.range 64) (by simp) (F:=fun m z s=>M3 (bt w) n m z s) (fun i s=>s=(((List.range 64).take i).filter fun i=>w.testBit i).map fun(i:Nat)=>(i:Int)) (Q:=fun r=>r=bl w)
  (fun m i x s hx aG bD uM hI ih=>by
   have hxi:x=i:=by rw[List.getElem?_range (by simpa using aG)]at hx;exact(Option.some.inj hx).symm
   subst hxi;have aU:s.length<=64:=by rw[hI,yA];refine Nat.le_trans (List.length_filter_le _ _) ?_;rw[List.length_take,List.length_range];omega
   rw[List.length_range]at aG;simp only[M3,pQ,bD,zC,u_ hw aG,aO,Mj,uM];cases hb:w.testBit x with
   |true=>simp only[zC];rw[kQ (by omega)];refine ih _ ?_;rw[j5 hx,List.filter_append,List.map_append,hI];simp[hb]|false=>simp only[zD];refine ih _ ?_;rw[j5 hx,List.filter_append,List.map_append,hI];simp[hb])
  (fun m s bD hI=>by simp only[M3,pQ,bD,zD,Zn];rw[zW (zF _)]at hI;exact⟨s,rfl,hI⟩) n 0 [] (by simp;omega) (by omega) (by simp)
 obtain⟨r,h1,h2⟩:=this;rw[<-h2];rw[zV]at h1;exact h1
theorem qvd(hw:w<4096)(hn:100<=n):Cz n (bt w)=some ((bl w).length:Int):=by rw[Cz,z75 hw hn];rfl
theorem qwu(hn:5<=n):PS n (bt a) (bt b)=some (decide (a=b)):=by
 obtain⟨k,rfl⟩:=Nat.exists_eq_add_of_le' hn;by_cases ha:a=0;subst ha;by_cases hb:b=0;subst hb;rfl;rw[rY hb];simp[SY,PS,Ne.symm hb];by_cases hb:b=0;subst hb;rw[rY ha];simp[SY,PS,ha];have e:PS (k+5) [(a:Int)] [(b:Int)]=cond ((a:Int) != (b:Int)) (some false) (some true):=rfl;rw[rY ha,rY hb,e];by_cases h:a=b;subst h;simp;have:((a:Int) != (b:Int))=true:=by simp;omega
 simp[this,h]
theorem Ph{ws:List Nat}(hl:ws.length<=1000)(hn:5000<=n):Xc n (ws.map bt) (bt b)=some (decide (b∈ws)):=by
 have:=iO (l:=ws) (by omega) (F:=fun m z (_:Unit)=>VN (ws.map bt) (bt b) n m z) (fun i _=>b ∉ ws.take i) (Q:=fun r=>r=decide (b∈ws))
  (fun m i x _ hx aG bD hw hI ih=>by
   have Pq:(ws.map bt)[i]? = some (bt x):=by rw[List.getElem?_map,hx];rfl
   simp only[VN,yA,bD,zC,cO,Pq,aO,qwu (a:=x) (b:=b) (n:=n) (by omega),hw];by_cases e:x=b;simp only[e,yC,zC];exact⟨true,rfl,(decide_eq_true (e ▸ zX hx)).symm⟩;simp only[e,yB,zD];refine ih () ?_;rw[j5 hx];simp[hI,Ne.symm e])
  (fun m _ bD hI=>by simp only[VN,yA,bD,zD,Yi];rw[zW (zF _)]at hI;exact⟨false,rfl,(decide_eq_false hI).symm⟩) n 0 () (by omega) (by omega) (by simp)
 obtain⟨r,h1,h2⟩:=this;rw[<-h2];rw[zV]at h1;exact h1
def GC(l:List Nat):Nat:=l.foldl (fun w i=>w|||2^i) 0
theorem vh:∀(l:List Nat)(w:Nat),(∀i∈l,i<12)->w<4096->l.foldl (fun w i=>w|||2^i) w<4096
 |[],w,_,h=>h|i::l,w,hl,h=>vh l _ (fun j hj=>hl j (by simp[hj])) (Nat.or_lt_two_pow (n:=12) h (Nat.pow_lt_pow_right (by omega) (hl i (by simp))))
theorem j_(j:Nat):∀(l:List Nat)(w:Nat),(l.foldl (fun w i=>w|||2^i) w).testBit j=(w.testBit j||decide (j∈l))
 |[],w=>by simp
 |i::l,w=>by rw[List.foldl_cons,j_ j l,Nat.testBit_or,Nat.testBit_two_pow];by_cases e:i=j;subst e;simp;have:¬ j=i:=fun h=>e h.symm;simp[e,this,Bool.or_assoc]
theorem Oh{l:List Nat}(hl:l.length<=12)(eX:∀i∈l,i<12)(hn:5000<=n):Jr n (l.map fun(i:Nat)=>(i:Int))=some (bt (GC l),0):=by
 have U':List.replicate (64:Int).toNat (0:Int)=((0:Nat):Int)::List.replicate 63 0:=rfl;have:=iO (l:=l) (by omega) (F:=fun m z s=>VO (l.map fun(i:Nat)=>(i:Int)) n m z s) (fun i s=>s=(((l.take i).foldl (fun w i=>w|||2^i) 0:Nat):Int)::List.replicate 63 0) (Q:=fun r=>r=(bt (GC l),0))
  (fun m i x s hx aG bD hw hI ih=>by
   have tn:=eX x (zX hx);have Pq:(l.map fun(i:Nat)=>(i:Int))[i]? = some (x:Int):=by rw[List.getElem?_map,hx];rfl
   have e1:decide ((x:Int)<0)=false:=by simp
   have e2:decide ((x:Int)>4095)=false:=by simp;omega
   have e3:IntKind.i64.wrap ((x:Int).tdiv 64)=0:=by rw[Int.tdiv_eq_ediv_of_nonneg (by omega),show(x:Int)/64=0 by omega];exact wr (by omega) (by omega)
   have e4:(x:Int).tmod 64=(x:Int):=by rw[Int.tmod_eq_emod_of_nonneg (by omega)];omega
   have e5:IntKind.u64.wrap (x:Int)=(x:Int):=wu (by omega);have e6:min ((x:Int).toNat) IntKind.u64.bits=x:=by rw[zZ];exact Nat.min_eq_left (by show x<=64;omega)
   have hw0:(l.take i).foldl (fun w i=>w|||2^i) 0<4096:=vh _ 0 (fun j hj=>eX j (List.mem_of_mem_take hj)) (by omega);have hp:2^x<4096:=Nat.pow_lt_pow_right (n:=12) (by omega) tn;have e7:IntKind.u64.wrap (1*(2^x:Int))=((2^x:Nat):Int):=by rw[Int.one_mul,show(2:Int)^x=((2^x:Nat):Int) by simp];exact wu (by omega)
   have e8:rW s 0 ((64:Int).toNat) 0=some (((l.take i).foldl (fun w i=>w|||2^i) 0:Nat):Int):=by rw[hI];rfl
   have e9:=orN (a:=(l.take i).foldl (fun w i=>w|||2^i) 0) (b:=2^x) (by omega) (by omega);simp only[VO,yA,bD,zC,cO,Pq,aO,e1,e2,zD,e3,e4,e5,e6,e7,e8,e9,hw];rw[kQ (by omega)];refine ih _ ?_;rw[j5 hx,List.foldl_append,hI];rfl)
  (fun m s bD hI=>by
   simp only[VO,yA,bD,zD,Yl];rw[zW (zF _)]at hI;have h1:JL n s=some (bt (GC l)):=by rw[hI];exact yf (k:=63) (by omega) 63 n (by omega) (by omega)
   rw[kQ (by rw[hI];rfl),h1];exact⟨_,rfl,rfl⟩) n 0 _ (by omega) (by omega) rfl
 obtain⟨r,h1,h2⟩:=this;rw[zV]at h1;rw[Jr,kQ (by decide),U',<-h2];exact h1
end Go.Proofs
