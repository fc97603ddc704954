import Derived.Shelf.SlSortCmp.WholeK
import Derived.Test.YtldlchbgolpkaaaGreatP17
set_option linter.all false
namespace Go.Vx
open Go Go.Rx Go.Proofs Go.Sort
def W6{O:Type}(lt:O->O->Bool)(x:O):List O->List O
 |[]=>[x]|y::l=>cond (lt y x) (y::W6 lt x l) (x::y::l)
def srt{O:Type}(lt:O->O->Bool):List O->List O
 |[]=>[]|x::l=>W6 lt x (srt lt l)
theorem iv{O:Type}(lt:O->O->Bool)(x:O):∀l,(W6 lt x l).Perm (x::l)
 |[]=>.refl _|y::l=>by simp only[W6];rcases lt y x with _|_;exact .refl _;exact((iv lt x l).cons y).trans (.swap _ _ _)
theorem qzg{O:Type}(lt:O->O->Bool):∀l,(srt lt l).Perm l
 |[]=>.refl _|x::l=>(iv lt x _).trans ((qzg lt l).cons x)
def Asc{O:Type}(lt:O->O->Bool)(l:List O):Prop:=l.Pairwise (fun x y=>lt y x=false)
theorem qy9{O:Type}{lt:O->O->Bool}(h:SWO lt)(x:O):∀{l},Asc lt l->Asc lt (W6 lt x l)
 |[],_=>by simp[W6,Asc]
 |y::l,ha=>by
  simp only[W6];unfold Asc at ha ⊢;rw[List.pairwise_cons]at ha;cases hy:lt y x with
  |true=>simp only[zC];rw[List.pairwise_cons];refine⟨fun z hz=>?_,qy9 h x ha.2⟩;have:=(iv lt x l).mem_iff.1 hz;rcases zI.1 this with rfl |hz;rcases hzy:lt z y with _|_;rfl;have:=h.trans y z y hy hzy;rw[h.irrefl]at this;cases this;exact ha.1 z hz
  |false=>simp only[zD];rw[List.pairwise_cons];refine⟨fun z hz=>?_,List.pairwise_cons.2 ha⟩;rcases zI.1 hz with rfl |hz;exact hy;exact h.ntrans z y x (ha.1 z hz) hy
theorem z5s{O:Type}{lt:O->O->Bool}(h:SWO lt):∀l,Asc lt (srt lt l)
 |[]=>by simp[srt,Asc]
 |x::l=>qy9 h x (z5s h l)
end Go.Vx
namespace Go.Proofs
open Go Go.Rx Go.Vx Go.Shelf Go.Sort
theorem om:∀a b:List UInt8,lG a b=true↔a=b
 |[],[]=>by simp[lG]
 |[],_::_=>by simp[lG]
 |_::_,[]=>by simp[lG]
 |x::a,y::b=>by have h:(x.toNat=y.toNat)↔x=y:=UInt8.toNat_inj;simp only[lG,beq_eq];by_cases e:x=y;subst e;simp[om a b];simp[e,mt h.1 e]
theorem zai(a b:Nat):Nat.blt a b=true↔a<b:=by
 unfold Nat.blt;rw[Nat.ble_eq];exact Iff.rfl
theorem tS(a b:Nat):Nat.blt a b=decide (a<b):=by
 rw[Bool.eq_iff_iff,zai];simp
theorem qji:∀a:List UInt8,kN a a=false
 |[]=>rfl|x::a=>by simp[kN,tS,qji a]
theorem qkr:∀a b c:List UInt8,kN a b=true->kN b c=true->kN a c=true
 |_,[],_,h,_=>by simp[kN]at h
 |_,_::_,[],_,h=>by simp[kN]at h
 |[],_::_,_::_,_,_=>by simp[kN]
 |x::a,y::b,z::c,h1,h2=>by
  simp only[kN,tS,beq_eq]at*;by_cases h:x.toNat<y.toNat;by_cases h':y.toNat<z.toNat;have:x.toNat<z.toNat:=by omega
  simp[this];simp only[h',yB,zD]at h2;by_cases e:y.toNat=z.toNat;have:x.toNat<z.toNat:=by omega
  simp[this];simp[e]at h2;simp only[h,yB,zD]at h1;by_cases e:x.toNat=y.toNat;simp only[e,yC,zC]at h1;by_cases h':y.toNat<z.toNat;simp[e,h'];simp only[h',yB,zD]at h2;by_cases e':y.toNat=z.toNat;simp only[e',yC,zC]at h2;have:=qkr a b c h1 h2;simp[e,e',this];simp[e']at h2;simp[e]at h1
theorem qkq:∀a b:List UInt8,kN a b=false->kN b a=false->a=b
 |[],[],_,_=>rfl|[],_::_,h,_=>by simp[kN]at h
 |_::_,[],_,h=>by simp[kN]at h
 |x::a,y::b,h1,h2=>by
  simp only[kN,tS,beq_eq]at*;by_cases h:x.toNat<y.toNat;simp[h]at h1;by_cases h':y.toNat<x.toNat;simp[h']at h2;have e:x.toNat=y.toNat:=by omega
  simp only[e,Nat.lt_irrefl,yB,zD,yC,zC]at h1 h2;rw[qkq a b h1 h2,UInt8.toNat_inj.1 e]
variable{O:Type}
theorem aO{β:Type}(a:O)(k:O->Option β):a8 (some a) k=k a:=rfl
theorem wr{z:Int}(h1 : -9223372036854775808<=z)(h2:z<=9223372036854775807):IntKind.i64.wrap z=z:=wrap_i64 (by omega) (by omega)
variable{i:Nat}
theorem iU{len:Nat}(h:i<len)(hl:len<=9223372036854775807):IntKind.i64.wrap ((i:Int)+1)=((i+1:Nat):Int):=by rw[wr (by omega) (by omega)];simp
theorem EA{z:Int}{k:Nat}(h:z=k)(h2:k<=9223372036854775807):IntKind.i64.wrap z=(k:Int):=by subst h;exact wr (by omega) (by omega)
variable{l:List O}
theorem eM(h:i<l.length):∃x,l[i]? = some x/\x∈l:=⟨l[i],by simp[h],by simp⟩
variable{x:O}
theorem j9(h:l[i]? = some x):l.take (i+1)=l.take i++[x]:=by rw[List.take_add_one,h];rfl
theorem aW(h:l[i]? = some x):l.drop i=x::l.drop (i+1):=by
 have aE:i<l.length:=(zG.1 h).1;rw[List.drop_eq_getElem_cons aE];congr 1;rw[List.getElem?_eq_getElem aE]at h;exact Option.some.inj h
theorem hH{n:Nat}(h:i<n):decide ((i:Int)<(n:Int))=true:=by simp;omega
theorem iF{n:Nat}(h:¬ i<n):decide ((i:Int)<(n:Int))=false:=by simp;omega
theorem bT(h:¬ i<l.length):l.drop i=[]:=List.drop_eq_nil_of_le (by omega)
structure Cmp{O:Type}(c:O->O->Int):Prop where
 val:∀x y,c x y= -1\/c x y=0\/c x y=1
 anti:∀x y,c y x= - c x y
 trans:∀x y z,c x y<=0->c y z<=0->c x z<=0
variable{c:O->O->Int}
theorem Cmp.self(h:Cmp c)(x:O):c x x=0:=by have:=h.anti x x;omega
variable{y:O}
theorem Cmp.congr(h:Cmp c)(DC:c x y=0)(z:O):c x z=c y z:=by
 have h1:=h.val x z;have h2:=h.val y z;have a1:=h.anti x y;have a2:=h.anti x z;have a3:=h.anti y z;have t1:=h.trans x y z;have t2:=h.trans y x z;have t3:=h.trans z x y;have t4:=h.trans z y x;omega
theorem Cmp.congr'(h:Cmp c)(DC:c x y=0)(z:O):c z x=c z y:=by
 have h1:=h.congr DC z;have a2:=h.anti x z;have a3:=h.anti y z;omega
theorem Cmp.lt_of(h:Cmp c){z:O}(h1:c x y<0)(h2:c y z<=0):c x z<0:=by
 have t1:=h.trans x y z (by omega) h2;rcases Int.lt_or_eq_of_le t1 with h3 |h3;exact h3;have:=h.congr h3 y;have a3:=h.anti y z;omega
def GN{O:Type}(c d:O->O->Int)(x y:O):Int:=if c x y≠0 then c x y else d x y
theorem Cmp.lex{d:O->O->Int}(hc:Cmp c)(hd:Cmp d):Cmp (GN c d) where
 val x y:=by unfold GN;split;exact hc.val x y;exact hd.val x y
 anti x y:=by
  unfold GN;have a1:=hc.anti x y;have a2:=hd.anti x y;by_cases h:c x y=0;have:c y x=0:=by omega
  simp[h,this,a2];have:¬ c y x=0:=by omega
  simp[h,this,a1]
 trans x y z h1 h2:=by
  unfold GN at*;by_cases h:c x y=0;have e:=hc.congr h z;simp only[h,ne_eq,not_true,if_false]at h1;rw[e];by_cases h':c y z=0;simp only[h',ne_eq,not_true,if_false]at h2 ⊢;exact hd.trans x y z h1 h2;simp only[h',ne_eq,not_false_eq_true,if_true]at h2 ⊢;exact h2;simp only[h,ne_eq,not_false_eq_true,if_true]at h1;have y5:c x y<0:=by omega
  by_cases h':c y z=0;have e:=hc.congr' h' x;rw[<-e];simp only[h,ne_eq,not_false_eq_true,if_true];exact h1;simp only[h',ne_eq,not_false_eq_true,if_true]at h2;have:=hc.lt_of y5 h2;have cZ:¬ c x z=0:=by omega
  simp only[cZ,ne_eq,not_false_eq_true,if_true];omega
theorem iu{d:O->O->Int}:GN c d x y=0↔c x y=0/\d x y=0:=by
 unfold GN;by_cases h:c x y=0<;>simp[h]
theorem Cmp.pull{β:Type}(h:Cmp c)(f:β->O):Cmp (fun x y=>c (f x) (f y)):=⟨fun x y=>h.val _ _,fun x y=>h.anti _ _,fun x y z=>h.trans _ _ _⟩
def pA(a b:Int):Int:=if a<b then -1 else if b<a then 1 else 0
theorem Pp{a b:Int}:pA a b=0↔a=b:=by
 unfold pA;split;omega;split<;>omega
theorem Gm:Cmp pA where
  val x y := by unfold pA; split; · simp
                split<;>simp
  anti x y:=by unfold pA;split<;>split<;>(try split)<;>omega
  trans x y z:=by unfold pA;intro h1 h2;split at h1<;>split at h2<;>(try split at h1)<;>(try split at h2)<;>(try split)<;>(try split)<;>omega
theorem z7p(c:O->O->Int)(x y:O):ltOf c x y=true↔c x y<0:=by simp[ltOf]
theorem Cmp.swo(h:Cmp c):SWO (ltOf c) where
 irrefl x:=by have:=h.self x;simp[ltOf,this]
 trans x y z h1 h2:=by rw[z7p]at*;exact h.lt_of h1 (by omega)
 ntrans x y z h1 h2:=by
  have e:∀a b,ltOf c a b=false↔c b a<=0:=fun a b=>by have:=h.anti a b;simp[ltOf];omega
  rw[e]at*;exact h.trans z y x h2 h1
section
variable{O:Type}{c:O->O->Int}
theorem XG(hc:Cmp c)(l:List O):(srt (ltOf c) l).Pairwise (fun x y=>c x y<=0):=by
 have:=z5s hc.swo l;refine List.Pairwise.imp ?_ this;intro x y h;have:=hc.anti x y;simp[ltOf]at h;omega
end
end Go.Proofs
namespace Go.Vx
open Go Go.Rx
section
variable{K V:Type}[DecidableEq K]
def vN(k:K):List (K×V×Nat)->Option V
 |[]=>none|e::es=>if k=e.1 then some e.2.1 else vN k es
variable{eq:K->K->Bool}(he:∀a b,eq a b=true↔a=b)
include he
omit [DecidableEq K] in
theorem Zj{a b:K}(h:¬ a=b):eq a b=false:=by
 rcases h':eq a b with _|_;rfl;exact absurd ((he a b).1 h') h
theorem fj(k:K):∀(es:List (K×V×Nat))(i:Nat),(AR eq k es i).map (fun x=>x.2.1)=vN k es
 |[],i=>rfl|e::es,i=>by simp only[AR,vN];by_cases h:k=e.1;rw[(he k e.1).2 h,if_pos h];rfl;rw[Zj he h,if_neg h];exact fj k es (i+1)
theorem z7q(m:k7 K V)(k:K):I1 eq m k=vN k m.es:=fj he k m.es 0
theorem z3c(k:K)(v:V):∀{es:List (K×V×Nat)}{i j:Nat}{q:V×Nat},AR eq k es i=some (j,q)->i<=j/\∀x,vN x (AO v es (j-i))=if x=k then some v else vN x es
 |[],i,j,q,h=>by cases h
 |e::es,i,j,q,h=>by simp only[AR]at h;by_cases hk:k=e.1;rw[(he k e.1).2 hk]at h;simp only[zC,zA,zB]at h;obtain⟨rfl,_⟩:=h;refine⟨zF _,fun x=>?_⟩;simp only[Nat.sub_self,AO,vN,hk];split<;>rfl;rw[Zj he hk]at h;simp only[zD]at h;obtain⟨h1,h2⟩:=z3c k v h;refine⟨by omega,fun x=>?_⟩;rw[show j-i=(j-(i+1))+1 by omega];simp only[AO,vN,h2];by_cases hx:x=e.1;have:¬ x=k:=fun h=>hk (h ▸ hx);simp[hx];intro h;exact absurd h.symm hk;simp[hx]
omit he [DecidableEq K] in
theorem qzd(v:V):∀(es:List (K×V×Nat))(i:Nat),(AO v es i).map (fun e=>e.1)=es.map (fun e=>e.1)/\(AO v es i).map (fun e=>e.2.2)=es.map (fun e=>e.2.2)
 |[],i=>by simp[AO]
 |e::es,0=>by simp[AO]
 |e::es,i+1=>by simp[AO,qzd v es i]
omit he in
theorem J4(x k:K)(v:V)(b:Nat):∀es:List (K×V×Nat),vN x (es++[(k,v,b)])=if vN x es=none then(if x=k then some v else none)else vN x es
 |[]=>by simp[vN]
 |e::es=>by simp only[List.cons_append,vN];by_cases hx:x=e.1;simp[hx];simp only[hx,if_false];exact J4 x k v b es
structure MInv(m:k7 K V):Prop where
 keys:(m.es.map (fun e=>e.1)).Nodup
 borns:(m.es.map (fun e=>e.2.2)).Nodup
 lt:∀e∈m.es,e.2.2<m.cl
omit he in
theorem MInv.app{m:k7 K V}(h:MInv m){k:K}(hf:vN k m.es=none)(v:V):MInv (⟨m.es++[(k,v,m.cl)],m.cl+1⟩:k7 K V):=by
 refine⟨?_,?_,?_⟩;simp only[List.map_append,zQ,List.map_nil];rw[List.nodup_append];refine⟨h.keys,by simp,?_⟩;intro a ha b hb xE;simp only[List.mem_singleton]at hb;subst xE hb;clear h;generalize m.es=es at*;induction es with
 |nil=>simp at ha|cons e es ih=>simp only[vN]at hf;by_cases hx:a=e.1;simp[hx]at hf;simp only[hx,if_false]at hf;simp only[zQ,zI,hx,false_or]at ha;exact ih ha hf
 simp only[List.map_append,zQ,List.map_nil];rw[List.nodup_append];refine⟨h.borns,by simp,?_⟩;intro a ha b hb xE;simp only[List.mem_singleton]at hb;obtain⟨e,he,rfl⟩:=List.mem_map.1 ha;have:=h.lt e he;omega;intro e he;rcases yD.1 he with he |he;have:=h.lt e he;simp only;omega;simp only[List.mem_singleton]at he;subst he;simp
omit he [DecidableEq K] in
theorem MInv.set{m:k7 K V}(h:MInv m)(v:V)(i:Nat):MInv (⟨AO v m.es i,m.cl⟩:k7 K V):=by
 obtain⟨h1,h2⟩:=qzd v m.es i;refine⟨by simp only[h1];exact h.keys,by simp only[h2];exact h.borns,fun e he=>?_⟩;have:e.2.2∈(AO v m.es i).map (fun e=>e.2.2):=List.mem_map.2 ⟨e,he,rfl⟩;rw[h2]at this;obtain⟨e',g1,g2⟩:=List.mem_map.1 this;have:=h.lt e' g1;simp only at g2 ⊢;omega
theorem WH{m:k7 K V}(h:MInv m)(k:K)(v:V):MInv (D6 eq m k v)/\∀x,vN x (D6 eq m k v).es=if x=k then some v else vN x m.es:=by
 unfold D6;cases hf:AR eq k m.es 0 with
 |none=>
  have hg:vN k m.es=none:=by rw[<-fj he k m.es 0,hf];rfl
  refine⟨h.app hg v,fun x=>?_⟩;simp only[J4];by_cases hx:x=k;simp[hx,hg];simp only[hx,if_false];split<;>simp_all
 |some q=>obtain⟨j,q⟩:=q;have:=(z3c he k v hf).2;exact⟨h.set v j,fun x=>by simpa using this x⟩
end
end Go.Vx
namespace Go.Proofs
open Go Go.Rx Go.Vx Go.Shelf Go.Sort
set_option maxRecDepth 10000
def o4{O:Type}(c:O->O->Int):List O->List O->Int
 |[],[]=>0|[],_::_=>-1
 |_::_,[]=>1|x::xs,y::ys=>if c x y≠0 then c x y else o4 c xs ys
theorem Cmp.list{O:Type}{c:O->O->Int}(h:Cmp c):Cmp (o4 c) where
 val:=by
  intro x;induction x with
  |nil=>intro y;cases y<;>simp[o4]|cons a x ih=>intro y;rcases y with _|⟨b,y⟩;simp[o4];simp only[o4];split;exact h.val a b;exact ih y
 anti:=by
  intro x;induction x with
  |nil=>intro y;cases y<;>simp[o4]|cons a x ih=>
   intro y;rcases y with _|⟨b,y⟩;simp[o4];simp only[o4];have a1:=h.anti a b;have a2:=ih y;by_cases e:c a b=0;have:c b a=0:=by omega
   simp[e,this,a2];have:¬ c b a=0:=by omega
   simp[e,this,a1]
 trans:=by
  intro x;induction x with
  |nil=>intro y z h1 h2;cases z<;>simp[o4]|cons a x ih=>
   intro y z h1 h2;rcases y with _|⟨b,y⟩;simp[o4]at h1;rcases z with _|⟨d,z⟩;simp[o4]at h2;simp only[o4]at*;by_cases e:c a b=0;have e2:=h.congr e d;simp only[e,ne_eq,not_true,if_false]at h1;rw[e2];by_cases e3:c b d=0;simp only[e3,ne_eq,not_true,if_false]at h2 ⊢;exact ih y z h1 h2;simp only[e3,ne_eq,not_false_eq_true,if_true]at h2 ⊢;exact h2;simp only[e,ne_eq,not_false_eq_true,if_true]at h1;have y5:c a b<0:=by omega
   by_cases e3:c b d=0;have e4:=h.congr' e3 a;rw[<-e4];simp only[e,ne_eq,not_false_eq_true,if_true];exact h1;simp only[e3,ne_eq,not_false_eq_true,if_true]at h2;have:=h.lt_of y5 h2;have cZ:¬ c a d=0:=by omega
   simp only[cZ,ne_eq,not_false_eq_true,if_true];omega
theorem it{O:Type}{c:O->O->Int}:∀{xs ys:List O},(∀x∈xs,∀y,c x y=0->x=y)->o4 c xs ys=0->xs=ys
 |[],[],_,_=>rfl|[],_::_,_,h=>by simp[o4]at h
 |_::_,[],_,h=>by simp[o4]at h
 |x::xs,y::ys,hc,h=>by simp only[o4]at h;by_cases e:c x y=0;simp only[e,ne_eq,not_true,if_false]at h;rw[hc x (by simp) y e,it (fun a ha=>hc a (by simp[ha])) h];simp[e]at h
def QT:aK->aK->Int:=GN (fun x y=>pA x.Feat y.Feat) (fun x y=>pA x.To y.To)
theorem Dy:Cmp QT:=(Gm.pull _).lex (Gm.pull _)
theorem z6w{x y:aK}(h:QT x y=0):x=y:=by
 simp only[QT,iu,Pp]at h;cases x;cases y;simp only at h;obtain⟨rfl,rfl⟩:=h;rfl
def VS:aN->aN->Int:=GN (GN (fun x y=>pA x.Typex y.Typex) (fun x y=>pA x.Arcs.length y.Arcs.length)) (fun x y=>o4 QT x.Arcs y.Arcs)
theorem Dv:Cmp VS:=((Gm.pull _).lex (Gm.pull (fun x:aN=>(x.Arcs.length:Int)))).lex (Dy.list.pull _)
theorem z6x{x y:aN}(h:VS x y=0):x=y:=by
 simp only[VS,iu,Pp]at h;have:=it (fun a _ b h=>z6w h) h.2;cases x;cases y;simp only at h this;obtain⟨⟨rfl,_⟩,_⟩:=h;subst this;rfl
def Dx:GFS->GFS->Int:=GN (fun x y=>pA x.Nodes.length y.Nodes.length) (fun x y=>o4 VS x.Nodes y.Nodes)
theorem Dw:Cmp Dx:=(Gm.pull (fun x:GFS=>(x.Nodes.length:Int))).lex (Dv.list.pull _)
theorem fq{x y:GFS}:Dx x y=0↔x=y:=⟨fun h=>by
 simp only[Dx,iu,Pp]at h;have:=it (fun a _ b h=>z6x h) h.2;cases x;cases y;simp only at this;subst this;rfl,fun h=>by subst h;exact Dw.self x⟩
structure d6(f:GFS)(k:Nat):Prop where
 nodes:f.Nodes.length<=k
 arcs:∀x∈f.Nodes,x.Arcs.length<=k
def LN(l:List aK):List Int:=l.flatMap fun a=>[a.Feat,a.To]
def S5(x:aN):List Int:=[x.Typex,(x.Arcs.length:Int)]++LN x.Arcs
def HZ(f:GFS):List Int:=(f.Nodes.length:Int)::f.Nodes.flatMap S5
theorem fy:∀l:List aK,(LN l).length=2*l.length
 |[]=>rfl|a::l=>by have:=fy l;simp only[LN,List.flatMap_cons,zU,zO,zS]at*;omega
theorem z4i{x:aN}{i:Int}{rc:Int->List Int->Option (List Int)}(hx:x.Arcs.length<=1000000):∀(m k:Nat)(aX:List Int),x.Arcs.length-k<m->k<=x.Arcs.length->aX.length+2*(x.Arcs.length-k)<=1000000000->
  Ix i rc x m k aX=rc (IntKind.i64.wrap (i+1)) (aX++LN (x.Arcs.drop k))
 |0,k,aX,hm,_,_=>by omega
 |m+1,k,aX,hm,hk,ha=>by
  unfold Ix;by_cases aE:k<x.Arcs.length;obtain⟨a,h1,_⟩:=eM aE;have hn:(aX.length+2)*8<=140737488355328/\aX.length+2<=140737488355328:=by omega
  simp only[hH aE,zC,cK,h1,aO,aF,hn,and_self,if_true,iU aE (show x.Arcs.length<=9223372036854775807 by omega)];rw[z4i hx m (k+1) _ (by omega) (by omega) (by simp only[zU,zO,zS];omega),aW h1];simp[LN];simp only[iF aE,zD,ul,bT aE,LN,List.flatMap_nil,List.append_nil]
theorem z4h{f:GFS}{n:Nat}(hf:d6 f 1000)(hn:1001<=n):∀(m i:Nat)(aX:List Int),f.Nodes.length-i<m->i<=f.Nodes.length->aX.length+2002*(f.Nodes.length-i)<=900000000->
  PM f n m i aX=some (aX++(f.Nodes.drop i).flatMap S5)
 |0,i,aX,hm,_,_=>by omega
 |m+1,i,aX,hm,hi,ha=>by
  unfold PM;have hl:=hf.nodes;by_cases aE:i<f.Nodes.length;obtain⟨x,hx,gM⟩:=eM aE;have h2:=hf.arcs x gM;have hn:(aX.length+2)*8<=140737488355328/\aX.length+2<=140737488355328:=by omega
  have h0:=z4i (i:=(i:Int)) (rc:=PM f n m) (x:=x) (by omega) n 0 (aX++[x.Typex,(x.Arcs.length:Int)]) (by omega) (by omega) (by simp only[zU,zO,zS];omega);rw[zV,List.drop_zero]at h0;simp only[hH aE,zC,cK,hx,aO,aF,hn,and_self,if_true,h0,iU aE (show f.Nodes.length<=9223372036854775807 by omega)];rw[z4h hf (by omega) m (i+1) _ (by omega) (by omega) (by simp only[zU,zO,zS,fy];omega),aW hx];simp[S5];simp only[iF aE,zD,um,bT aE,List.flatMap_nil,List.append_nil]
variable{f:GFS}
variable{n:Nat}
theorem z4j(hf:d6 f 1000)(hn:1001<=n):Ia n f=some (HZ f):=by
 have hl:=hf.nodes;have:=z4h hf hn n 0 [(f.Nodes.length:Int)] (by omega) (by omega) (by simp only[zO,zS];omega);rw[zV,List.drop_zero]at this;simp only[Ia,this,HZ,List.singleton_append]
def BJ:List Int->List Int->Int
 |x::xs,y::ys=>if pA x y≠0 then pA x y else BJ xs ys|_,_=>0
theorem qz7{l m:List Int}(hl:l.length<=1000000000):∀(n i:Nat),l.length-i<n->i<=l.length->Iy l m n i=some (BJ (l.drop i) (m.drop i))
 |0,i,hn,_=>by omega
 |n+1,i,hn,hi=>by unfold Iy;by_cases h1:i<l.length;obtain⟨x,hx,_⟩:=eM h1;by_cases h2:i<m.length;obtain⟨y,hy,_⟩:=eM h2;simp only[hH h1,hH h2,zC,aO,cK,hx,hy,iU h1 (show l.length<=9223372036854775807 by omega),aW hx,aW hy,BJ,pA];by_cases h3:x<y;simp[h3];by_cases h4:y<x;simp[h3,h4];simp only[h3,h4,yB,zD,if_false,ne_eq,not_true,gt_iff_lt];exact qz7 hl n (i+1) (by omega) (by omega);simp only[hH h1,iF h2,zC,zD,aO,Sx,aW hx,bT h2,BJ];simp only[iF h1,zD,aO,Sx,bT h1,BJ]
theorem z7x{k:Nat}(hf:d6 f k):(HZ f).length<=1+f.Nodes.length*(2+2*k):=by
 have:∀l:List aN,(∀x∈l,x.Arcs.length<=k)->(l.flatMap S5).length<=l.length*(2+2*k):=by
  intro l;induction l with
  |nil=>intro _;simp|cons x l ih=>
   intro h;have h1:=ih fun y hy=>h y (List.mem_cons_of_mem _ hy);have h2:=h x (by simp);have h3:(l.length+1)*(2+2*k)=l.length*(2+2*k)+(2+2*k):=by rw[Nat.add_mul,Nat.one_mul]
   simp only[List.flatMap_cons,zU,S5,zO,zS,fy];rw[h3];omega
 have:=this f.Nodes hf.arcs;simp only[HZ,zO];omega
theorem z55{g:GFS}(hf:d6 f 1000)(hg:d6 g 1000)(hn:3000000<=n):Rl n f g=some (BJ (HZ f) (HZ g)):=by
 have h1:=z7x hf;have h2:=hf.nodes;have h3:f.Nodes.length*(2+2*1000)<=1000*(2+2*1000):=Nat.mul_le_mul_right _ h2;have:=qz7 (l:=HZ f) (m:=HZ g) (by omega) n 0 (by omega) (by omega);rw[zV,List.drop_zero,List.drop_zero]at this;simp only[Rl,z4j hf (show 1001<=n by omega),z4j hg (show 1001<=n by omega),aO,this]
theorem qux{c d:List Int}:∀{xs ys:List aK},xs.length=ys.length->BJ (LN xs++c) (LN ys++d)=if o4 QT xs ys≠0 then o4 QT xs ys else BJ c d
 |[],[],_=>by simp[LN,o4]
 |[],_::_,h=>by simp at h
 |_::_,[],h=>by simp at h
 |x::xs,y::ys,h=>by simp only[zO,Nat.add_right_cancel_iff]at h;have ih:=qux (c:=c) (d:=d) h;simp only[LN,List.flatMap_cons,List.cons_append,List.nil_append,BJ,o4]at ih ⊢;rw[ih];unfold QT GN;by_cases e:pA x.Feat y.Feat=0;by_cases e2:pA x.To y.To=0<;>simp[e,e2];simp[e]
theorem qr9{c d:List Int}:∀{xs ys:List aN},xs.length=ys.length->BJ (xs.flatMap S5++c) (ys.flatMap S5++d)=if o4 VS xs ys≠0 then o4 VS xs ys else BJ c d
 |[],[],_=>by simp[o4]
 |[],_::_,h=>by simp at h
 |_::_,[],h=>by simp at h
 |x::xs,y::ys,h=>by
  simp only[zO,Nat.add_right_cancel_iff]at h;have ih:=qr9 (c:=c) (d:=d) h;simp only[List.flatMap_cons,S5,zT,List.cons_append,List.nil_append,BJ,o4];have hN:VS x y=(if(if pA x.Typex y.Typex≠0 then pA x.Typex y.Typex else pA (x.Arcs.length:Int) y.Arcs.length)≠0 then(if pA x.Typex y.Typex≠0 then pA x.Typex y.Typex else pA (x.Arcs.length:Int) y.Arcs.length)else o4 QT x.Arcs y.Arcs):=rfl;simp only[hN];by_cases e:pA x.Typex y.Typex=0;by_cases e2:pA (x.Arcs.length:Int) y.Arcs.length=0;have hl:x.Arcs.length=y.Arcs.length:=by have:=Pp.1 e2;omega
  simp only[e,e2,ne_eq,not_true,if_false];rw[qux hl,ih];by_cases e3:o4 QT x.Arcs y.Arcs=0<;>simp[e3];simp[e,e2];simp[e]
theorem zaj(f g:GFS):BJ (HZ f) (HZ g)=Dx f g:=by
 simp only[HZ,BJ,Dx];unfold GN;by_cases e:pA (f.Nodes.length:Int) g.Nodes.length=0;have hl:f.Nodes.length=g.Nodes.length:=by have:=Pp.1 e;omega
 have:=qr9 (c:=[]) (d:=[]) hl;simp only[List.append_nil,BJ]at this;simp only[e,ne_eq,not_true,if_false,this];by_cases e2:o4 VS f.Nodes g.Nodes=0<;>simp[e2];simp[e]
theorem du{g:GFS}(hf:d6 f 1000)(hg:d6 g 1000)(hn:3000000<=n):HD n f g=some (Dx f g==0):=by
 simp only[HD,z55 hf hg hn,aO,zaj]
theorem qye{f:GFS}(hl:f.Nodes.length<=12):∀(m i:Nat),f.Nodes.length-i<m->i<=f.Nodes.length->∃b,Ik f m i=some b/\(b=true->∀x∈f.Nodes.drop i,x.Arcs.length<=12)
 |0,i,hm,_=>by omega
 |m+1,i,hm,hi=>by unfold Ik;by_cases aE:i<f.Nodes.length;obtain⟨x,hx,_⟩:=eM aE;simp only[hH aE,zC,cK,hx,aO,iU aE (show f.Nodes.length<=9223372036854775807 by omega)];by_cases h:(x.Arcs.length:Int)>12;simp only[h,yC,zC];exact⟨false,rfl,fun h=>by cases h⟩;simp only[h,yB,zD];obtain⟨b,h1,h2⟩:=qye hl m (i+1) (by omega) (by omega);refine⟨b,h1,fun hb=>?_⟩;rw[aW hx];intro y hy;rcases zI.1 hy with rfl |hy;omega;exact h2 hb y hy;simp only[iF aE,zD,yt,bT aE];exact⟨true,rfl,fun _ x hx=>by cases hx⟩
theorem z7m(f:GFS)(hn:20<=n):∃b,Qj n f=some b/\(b=true->d6 f 12):=by
 unfold Qj;by_cases h:(f.Nodes.length:Int)>12;simp only[h,yC,zC];exact⟨false,rfl,fun h=>by cases h⟩;simp only[h,yB,zD];obtain⟨b,h1,h2⟩:=qye (f:=f) (by omega) n 0 (by omega) (by omega);rw[zV]at h1;rw[List.drop_zero]at h2;exact⟨b,h1,fun hb=>⟨by omega,h2 hb⟩⟩
theorem d6.up{k k':Nat}(h:d6 f k)(hk:k<=k'):d6 f k':=⟨by have:=h.nodes;omega,fun x hx=>by have:=h.arcs x hx;omega⟩
def cF(a b:aK):Int:=pA a.Feat b.Feat
theorem Zr:Cmp cF:=Gm.pull aK.Feat
def xM(l:List aK):List aK:=srt (ltOf cF) l
theorem OU(l:List aK):(xM l).Perm l:=qzg _ l
def mI(l:List aK):Prop:=l.Pairwise (fun a b=>a.Feat≠b.Feat)
variable{l:List aK}
theorem mI.perm{m:List aK}(h:l.Perm m)(hd:mI l):mI m:=(h.pairwise_iff (fun{a b} h=>Ne.symm h)).1 hd
theorem mI.eq:∀{l:List aK},mI l->∀x∈l,∀y∈l,x.Feat=y.Feat->x=y
 |[],_,x,hx,_,_,_=>by cases hx
 |a::l,h,x,hx,y,hy,e=>by obtain⟨h1,h2⟩:=List.pairwise_cons.1 h;rcases zI.1 hx with e1 |hx';rcases zI.1 hy with e2 |FU;rw[e1,e2];subst e1;exact absurd e (h1 y FU);rcases zI.1 hy with e2 |FU;subst e2;exact absurd e.symm (h1 x hx');exact mI.eq h2 x hx' y FU e
def lU(l:List aK):Prop:=l.Pairwise (fun a b=>a.Feat<b.Feat)
theorem Zs{a b:aK}:cF a b<=0↔a.Feat<=b.Feat:=by
 unfold cF pA;by_cases h1:a.Feat<b.Feat;simp[h1];omega;by_cases h2:b.Feat<a.Feat;simp[h1,h2];simp[h1,h2];omega
theorem Ge(h:mI l):lU (xM l):=by
 have h1:=XG Zr l;have h2:mI (xM l):=h.perm (OU l).symm;refine(List.Pairwise.and h1 h2).imp fun{a b} h=>?_;have:=Zs.1 h.1;have:=h.2;omega
theorem dh:∀{a b:List aK},lU a->lU b->a.Perm b->a=b
 |[],b,_,_,h=>(List.nil_perm.1 h).symm|x::a,[],_,_,h=>by have:=h.length_eq;simp at this
 |x::a,y::b,ha,hb,h=>by
  obtain⟨h1,h2⟩:=List.pairwise_cons.1 ha;obtain⟨h3,h4⟩:=List.pairwise_cons.1 hb;have DC:x=y:=by rcases zI.1 (h.mem_iff.1 (List.mem_cons_self))with hx |hx;exact hx;rcases zI.1 (h.mem_iff.2 (List.mem_cons_self))with hy |hy;exact hy.symm;have h5:=h1 y hy;have h6:=h3 x hx;omega
  subst DC;rw[dh h2 h4 (h.cons_inv)]
theorem z5r{m:List aK}(hd:mI l)(h:m.Perm l)(hm:lU m):xM l=m:=dh (Ge hd) hm ((OU l).trans h.symm)
theorem lU.dis(h:lU l):mI l:=h.imp fun{a b} h=>by omega
structure NOk(x:aN)(N:Nat):Prop where
 ty:0<=x.Typex
 dis:mI x.Arcs
 arc:∀a∈x.Arcs,0<=a.Feat/\0<=a.To/\a.To<N
def AE(f:GFS):Prop:=∀x∈f.Nodes,NOk x f.Nodes.length
def nd(f:GFS)(v:Int):aN:=(f.Nodes[v.toNat]?).getD (aN.mk 0 [])
def uL(f:GFS)(v:Int):Prop:=0<=v/\v<f.Nodes.length
variable{f:GFS}
variable{v:Int}
theorem Ex(h:uL f v):aB f.Nodes v=some (nd f v)/\nd f v∈f.Nodes:=by
 have hv:v.toNat<f.Nodes.length:=by have:=h.1;have:=h.2;omega
 have h1:0<=v/\v<(f.Nodes.length:Int):=h;simp[aB,h1,nd,hv]
def nA(f:GFS)(v:Int):List aK:=xM (nd f v).Arcs
theorem J3{a:aK}:a∈nA f v↔a∈(nd f v).Arcs:=(OU _).mem_iff
def mM(g:List Int->Int->List Int)(o:List Int)(a:aK):List Int:=if a.To∈o then o else g o a.To
def dfs(f:GFS):Nat->List Int->Int->List Int
 |0,o,_=>o|k+1,o,v=>(nA f v).foldl (mM (dfs f k)) (o++[v])
structure Seen(f:GFS)(o:List Int):Prop where
 nd:o.Nodup
 ing:∀v∈o,uL f v
theorem kr:∀(N:Nat){o:List Int},o.Nodup->(∀v∈o,0<=v/\v<N)->o.length<=N
 |0,o,_,h=>by rcases o with _|⟨v,o⟩;simp;have:=h v (by simp);omega
 |N+1,o,hn,h=>by
  have h1:=kr N (o:=o.filter (fun v=>v != (N:Int))) (hn.filter _) fun v hv=>by rw[List.mem_filter]at hv;have:=h v hv.1;have h2:=hv.2;simp at h2;omega
  have h2:o.length<=(o.filter (fun v=>v != (N:Int))).length+1:=by
   clear h1 h;induction o with
   |nil=>simp|cons x o ih=>
    obtain⟨h3,h4⟩:=List.nodup_cons.1 hn;have:=ih h4;by_cases e:x=N;subst e;have:o.filter (fun v=>v != (N:Int))=o:=List.filter_eq_self.2 fun v hv=>by simp only[bne_iff_ne,ne_eq];intro e;subst e;exact h3 hv
    simp[this];have e2:(x != (N:Int))=true:=by simpa using e
    rw[List.filter_cons_of_pos (by simpa using e)];simp only[zO];omega
  omega
variable{o:List Int}
theorem Seen.len(h:Seen f o):o.length<=f.Nodes.length:=kr _ h.nd h.ing
theorem Seen.snoc(h:Seen f o)(hv:uL f v)(hn:v ∉ o):Seen f (o++[v]):=⟨by
 rw[List.nodup_append];refine⟨h.nd,by simp,?_⟩;intro a ha b hb;simp at hb;subst hb;intro e;subst e;exact hn ha,fun u hu=>by
 rcases yD.1 hu with hu |hu;exact h.ing u hu;simp at hu;subst hu;exact hv⟩
theorem wl{f:GFS}(hg:AE f):∀(k:Nat)(o:List Int)(v:Int),Seen f o->uL f v->v ∉ o->f.Nodes.length-o.length<=k->
  Seen f (dfs f k o v)/\(∃t,dfs f k o v=o++v::t)/\(∀u∈dfs f k o v,u ∉ o->∀a∈(nd f u).Arcs,a.To∈dfs f k o v)/\(∀k',f.Nodes.length-o.length<=k'->dfs f k' o v=dfs f k o v)
 |0,o,v,hs,hv,hn,hk=>by have h1:=(hs.snoc hv hn).len;simp only[zU,zO,zS]at h1;omega
 |k+1,o,v,hs,hv,hn,hk=>by
  have xZ:=hs.snoc hv hn;have G3:=xZ.len;simp only[zU,zO,zS]at G3;have key:∀(l:List aK),(∀a∈l,uL f a.To)->∀(p:List Int),Seen f p->(∃t,p=o++v::t)->(∀u∈p,u ∉ o->u≠v->∀a∈(nd f u).Arcs,a.To∈p)->
    Seen f (l.foldl (mM (dfs f k)) p)/\(∃t,l.foldl (mM (dfs f k)) p=p++t)/\(∀u∈l.foldl (mM (dfs f k)) p,u ∉ o->u≠v->∀a∈(nd f u).Arcs,a.To∈l.foldl (mM (dfs f k)) p)/\(∀a∈l,a.To∈l.foldl (mM (dfs f k)) p)/\
     (∀k',f.Nodes.length-(o.length+1)<=k'->l.foldl (mM (dfs f k')) p=l.foldl (mM (dfs f k)) p):=by
   intro l;induction l with
   |nil=>intro _ p hp pK eR;exact⟨hp,⟨[],by simp⟩,eR,⟨fun a ha=>(List.not_mem_nil ha).elim,fun _ _=>rfl⟩⟩|cons a l ih=>
    intro hl p hp pK eR;have Q0:=hl a (by simp);have G2:=fun b hb=>hl b (List.mem_cons_of_mem a hb);simp only[List.foldl_cons];by_cases hm:a.To∈p;have e:∀k',mM (dfs f k') p a=p:=fun k'=>by simp[mM,hm]
    simp only[e];obtain⟨g1,⟨t,g2⟩,g3,g4,g5⟩:=ih G2 p hp pK eR;refine⟨g1,⟨t,g2⟩,g3,fun b hb=>?_,g5⟩;rcases zI.1 hb with rfl |hb;rw[g2];exact List.mem_append_left _ hm;exact g4 b hb;have e:∀k',mM (dfs f k') p a=dfs f k' p a.To:=fun k'=>by simp[mM,hm]
    obtain⟨t0,pK⟩:=pK;have nI:o.length+1<=p.length:=by rw[pK];simp
    obtain⟨d1,⟨t1,d2⟩,d3,d4⟩:=wl hg k p a.To hp Q0 hm (by omega);have mF:∀u∈p,u∈dfs f k p a.To:=fun u hu=>by rw[d2];exact List.mem_append_left _ hu
    obtain⟨g1,⟨t,g2⟩,g3,g4,g5⟩:=ih G2 (dfs f k p a.To) d1 ⟨t0++a.To::t1,by rw[d2,pK];simp⟩ (fun u hu h1 h2 b hb=>by by_cases C3:u∈p;exact mF _ (eR u C3 h1 h2 b hb);exact d3 u hu C3 b hb);rw[e k];refine⟨g1,⟨a.To::t1++t,by rw[g2,d2];simp⟩,g3,fun b hb=>?_,fun k' rZ=>?_⟩;rcases zI.1 hb with rfl |hb;rw[g2,d2];simp;exact g4 b hb;rw[e k',d4 k' (by omega)];exact g5 k' rZ
  have Q0:∀a∈nA f v,uL f a.To:=fun a ha=>by have h1:=(hg _ (Ex hv).2).arc a (J3.1 ha);exact⟨h1.2.1,h1.2.2⟩
  obtain⟨g1,⟨t,g2⟩,g3,g4,g5⟩:=key (nA f v) Q0 (o++[v]) xZ ⟨[],rfl⟩ (fun u hu h1 h2=>by rcases yD.1 hu with hu |hu;exact absurd hu h1;simp at hu;exact absurd hu h2);refine⟨g1,⟨t,by show(nA f v).foldl _ _=_;rw[g2];simp⟩,fun u hu h1 a ha=>?_,fun k' rZ=>?_⟩;by_cases e:u=v;subst e;exact g4 a (J3.2 ha);exact g3 u hu h1 e a ha;cases k' with
  |zero=>omega|succ k'=>exact g5 k' (by omega)
def vL(f:GFS)(r:Int):List Int:=dfs f f.Nodes.length [] r
theorem Seen.nil(f:GFS):Seen f []:=⟨List.nodup_nil,fun v hv=>by cases hv⟩
structure VX(f:GFS)(r:Int)(o:List Int):Prop where
 seen:Seen f o
 head:∃t,o=r::t
 clo:∀u∈o,∀a∈(nd f u).Arcs,a.To∈o
theorem Gj(hg:AE f){r:Int}(hr:uL f r):VX f r (vL f r)/\∀k,f.Nodes.length<=k->dfs f k [] r=vL f r:=by
 obtain⟨h1,⟨t,h2⟩,h3,h4⟩:=wl hg f.Nodes.length [] r (Seen.nil f) hr (by simp) (by simp);exact⟨⟨h1,⟨t,by have h5:=h2;rw[List.nil_append]at h5;exact h5⟩,fun u hu=>h3 u hu (by simp)⟩,fun k hk=>h4 k (by simpa using hk)⟩
def sS(o:List Int)(a:aK):aK:=⟨a.Feat,(o.idxOf a.To:Int)⟩
def sU(f:GFS)(o:List Int)(v:Int):aN:=⟨(nd f v).Typex,(nA f v).map (sS o)⟩
def pG(f:GFS)(r:Int):GFS:=⟨(vL f r).map (sU f (vL f r))⟩
structure Rep(w:k7 Int Int)(o:List Int):Prop where
 inv:MInv w
 get:∀x,vN x w.es=if x∈o then some (o.idxOf x:Int)else none
theorem Zt(a b:Int):(a==b)=true↔a=b:=by simp
theorem Rep.nil:Rep (GM:k7 Int Int) []:=⟨⟨by simp[GM],by simp[GM],by simp[GM]⟩,fun x=>by simp[GM,vN]⟩
theorem Rep.snoc{w:k7 Int Int}(h:Rep w o)(hv:v ∉ o):Rep (D6 (fun a b=>a==b) w v (o.length:Int)) (o++[v]):=by
 obtain⟨h1,h2⟩:=WH (eq:=fun a b:Int=>a==b) Zt h.inv v (o.length:Int);refine⟨h1,fun x=>?_⟩;rw[h2,h.get];by_cases e:x=v;subst e;simp[List.idxOf_append,hv];by_cases hx:x∈o;simp[e,hx,List.idxOf_append];simp[e,hx]
theorem Rep.mget{w:k7 Int Int}(h:Rep w o)(x:Int):I1 (fun a b=>a==b) w x=if x∈o then some (o.idxOf x:Int)else none:=by
 rw[z7q (eq:=fun a b:Int=>a==b) Zt,h.get]
theorem XH{O:Type}(a b:List O)(x y:O):(a++x::b).set a.length y=a++y::b:=by simp
def E8(N:Nat)(seen:List Int):List aK->Int
 |[]=>0|a::l=>if a.Feat<0\/a.To<0\/a.To>=(N:Int)then 2 else if a.Feat∈seen then 4 else E8 N (a.Feat::seen) l
def GB(N:Nat)(x:aN):Int:=if x.Typex<0 then 2 else E8 N [] x.Arcs
theorem qug{N:Nat}:∀{l:List aK}{seen:List Int},E8 N seen l=0↔(∀a∈l,0<=a.Feat/\0<=a.To/\a.To<N)/\mI l/\∀a∈l,a.Feat ∉ seen
 |[],seen=>by simp[E8,mI]
 |a::l,seen=>by
  simp only[E8];by_cases h1:a.Feat<0\/a.To<0\/a.To>=(N:Int);simp only[h1,if_true];refine⟨fun h=>absurd h (by decide),fun h=>?_⟩;have:=h.1 a (by simp);omega;by_cases h2:a.Feat∈seen;simp only[h1,h2,if_true,if_false];exact⟨fun h=>absurd h (by decide),fun h=>absurd h2 (h.2.2 a (by simp))⟩;simp only[h1,h2,if_false];rw[qug (l:=l)];unfold mI;rw[List.pairwise_cons];constructor;rintro⟨g1,g2,g3⟩;refine⟨fun b hb=>?_,⟨fun b hb=>?_,g2⟩,fun b hb=>?_⟩;rcases zI.1 hb with rfl |hb;omega;exact g1 b hb;have:=g3 b hb;simp only[zI,not_or]at this;exact fun e=>this.1 e.symm
  rcases zI.1 hb with rfl |hb;exact h2;have:=g3 b hb;simp only[zI,not_or]at this;exact this.2;rintro⟨g1,⟨g2,g3⟩,g4⟩;refine⟨fun b hb=>g1 b (by simp[hb]),g3,fun b hb=>?_⟩;simp only[zI,not_or];exact⟨fun e=>g2 b hb e.symm,g4 b (by simp[hb])⟩
theorem quj{N:Nat}{x:aN}:GB N x=0↔NOk x N:=by
 unfold GB;by_cases h:x.Typex<0;simp only[h,if_true];exact⟨fun h=>absurd h (by decide),fun h'=>by have:=h'.ty;omega⟩;simp only[h,if_false];rw[qug];exact⟨fun⟨h1,h2,_⟩=>⟨by omega,h2,h1⟩,fun h=>⟨h.arc,h.dis,fun _ _=>by simp⟩⟩
def R2(N:Nat):List aN->Int
 |[]=>0|x::l=>if GB N x≠0 then GB N x else R2 N l
theorem qui{N:Nat}:∀{l:List aN},R2 N l=0↔∀x∈l,NOk x N
 |[]=>by simp[R2]
 |x::l=>by simp only[R2];by_cases h:GB N x=0;simp only[h,ne_eq,not_true,if_false,qui (l:=l),zI,forall_eq_or_imp,quj.1 h,true_and];simp only[h,ne_eq,not_false_eq_true,if_true,zI,forall_eq_or_imp,false_iff,not_and];exact fun h2=>absurd (quj.2 h2) h
def I4(f:GFS):Int:=if f.Nodes.length=0 then 1 else if f.Nodes.length>4096 then 7 else R2 f.Nodes.length f.Nodes
variable{f:GFS}
theorem quh:I4 f=0↔f.Nodes.length≠0/\f.Nodes.length<=4096/\AE f:=by
 unfold I4;by_cases h0:f.Nodes.length=0;simp[h0];by_cases h1:f.Nodes.length>4096;simp[h0,h1];intro _;omega;simp only[h0,h1,if_false,qui];exact⟨fun h=>⟨by simpa using h0,by omega,h⟩,fun h=>h.2.2⟩
structure sC(f g:GFS)(Z:Int->Int)(S:Int->Prop):Prop where
 clo:∀v,S v->∀a∈nA f v,S a.To
 inj:∀u v,S u->S v->Z u=Z v->u=v
 ty:∀v,S v->(nd g (Z v)).Typex=(nd f v).Typex
 arc:∀v,S v->nA g (Z v)=(nA f v).map fun a=>⟨a.Feat,Z a.To⟩
theorem sC.dfs{f g:GFS}{Z:Int->Int}{S:Int->Prop}(h:sC f g Z S):∀(k:Nat)(o:List Int)(v:Int),S v->(∀u∈o,S u)->dfs g k (o.map Z) (Z v)=(Go.Proofs.dfs f k o v).map Z/\∀u∈Go.Proofs.dfs f k o v,S u
 |0,o,v,hv,ho=>⟨rfl,ho⟩|k+1,o,v,hv,ho=>by
  have key:∀(l:List aK)(p:List Int),(∀a∈l,S a.To)->(∀u∈p,S u)->
    (l.map fun a=>(⟨a.Feat,Z a.To⟩:aK)).foldl (mM (Go.Proofs.dfs g k)) (p.map Z)=(l.foldl (mM (Go.Proofs.dfs f k)) p).map Z/\∀u∈l.foldl (mM (Go.Proofs.dfs f k)) p,S u:=by
   intro l;induction l with
   |nil=>intro p _ hp;exact⟨rfl,hp⟩|cons a l ih=>
    intro p hl hp;have Q0:=hl a (by simp);simp only[zQ,List.foldl_cons];have hm:Z a.To∈p.map Z↔a.To∈p:=by rw[List.mem_map];exact⟨fun⟨u,hu,e⟩=>by rw[<-h.inj u a.To (hp u hu) Q0 e];exact hu,fun hu=>⟨_,hu,rfl⟩⟩
    by_cases jN:a.To∈p;have e1:mM (Go.Proofs.dfs g k) (p.map Z) (⟨a.Feat,Z a.To⟩:aK)=p.map Z:=by simp only[mM,hm.2 jN,if_true]
    have e2:mM (Go.Proofs.dfs f k) p a=p:=by simp only[mM,jN,if_true]
    rw[e1,e2];exact ih p (fun b hb=>hl b (List.mem_cons_of_mem _ hb)) hp;have e1:mM (Go.Proofs.dfs g k) (p.map Z) (⟨a.Feat,Z a.To⟩:aK)=Go.Proofs.dfs g k (p.map Z) (Z a.To):=by simp only[mM,mt hm.1 jN,if_false]
    have e2:mM (Go.Proofs.dfs f k) p a=Go.Proofs.dfs f k p a.To:=by simp only[mM,jN,if_false]
    obtain⟨g1,g2⟩:=sC.dfs h k p a.To Q0 hp;rw[e1,e2,g1];exact ih _ (fun b hb=>hl b (List.mem_cons_of_mem _ hb)) g2
  have ho1:∀u∈o++[v],S u:=fun u hu=>by rcases yD.1 hu with hu |hu;exact ho u hu;simp at hu;subst hu;exact hv
  have:=key (nA f v) (o++[v]) (h.clo v hv) ho1;refine⟨?_,this.2⟩;show(nA g (Z v)).foldl _ (o.map Z++[Z v])=_;have e:=this.1;simp only[List.map_append,zQ,List.map_nil]at e;rw[h.arc v hv];exact e
theorem qus{Z:Int->Int}:∀{o:List Int}{x:Int},(∀u∈o,Z u=Z x->u=x)->(o.map Z).idxOf (Z x)=o.idxOf x
 |[],x,_=>rfl|u::o,x,h=>by
  simp only[zQ,List.idxOf_cons];have ih:=qus (o:=o) (x:=x) fun w hw=>h w (List.mem_cons_of_mem _ hw);by_cases e:u=x;subst e;simp;have e2:¬ Z u=Z x:=fun h2=>e (h u (by simp) h2);have e3:(u==x)=false:=by simpa using e
  have e4:(Z u==Z x)=false:=by simpa using e2
  simp only[e3,e4,zD,ih]
variable{r:Int}
theorem sC.canon{g:GFS}{Z:Int->Int}{S:Int->Prop}(h:sC f g Z S)(hf:AE f)(hg:AE g)(hr:uL f r)(hS:S r)(hr':uL g (Z r)):vL g (Z r)=(vL f r).map Z/\pG g (Z r)=pG f r:=by
 obtain⟨o1,s1⟩:=Gj hf hr;obtain⟨o2,s2⟩:=Gj hg hr';have h1:=h.dfs (f.Nodes.length+g.Nodes.length) [] r hS (by simp);rw[List.map_nil,s1 _ (by omega),s2 _ (by omega)]at h1;refine⟨h1.1,?_⟩;unfold pG;rw[h1.1,List.map_map];congr 1;refine List.map_congr_left fun v hv=>?_;have hSv:=h1.2 v hv;simp only[Function.comp,sU,h.ty v hSv,h.arc v hSv,List.map_map];congr 1;refine List.map_congr_left fun a ha=>?_;have hSa:=h.clo v hSv a ha;simp only[Function.comp,sS];rw[qus fun u hu e=>h.inj u a.To (h1.2 u hu) hSa e]
theorem z5q{l:List aK}(h:lU l):xM l=l:=z5r h.dis (List.Perm.refl _) h
theorem iw{o:List Int}{v:Int}(h:v∈o):o[o.idxOf v]? = some v:=by
 have h1:=List.idxOf_lt_length_of_mem h;rw[List.getElem?_eq_getElem h1,List.getElem_idxOf]
structure qk(f:GFS)(r:Int)(c:GFS):Prop where
 len:c.Nodes.length=(vL f r).length
 le:c.Nodes.length<=f.Nodes.length
 pos:0<c.Nodes.length
 ok:AE c
 at_:∀v∈vL f r,nd c ((vL f r).idxOf v:Int)=sU f (vL f r) v
 up:∀x∈c.Nodes,lU x.Arcs
 sim:sC f c (fun v=>((vL f r).idxOf v:Int)) (fun v=>v∈vL f r)
theorem WI{o:List Int}{l:List aK}(h:lU l):lU (l.map (sS o)):=by
 unfold lU at*;rw[List.pairwise_map];exact h
theorem z2c(hf:AE f)(hr:uL f r):qk f r (pG f r):=by
 obtain⟨o1,_⟩:=Gj hf hr;have oU:∀v∈vL f r,nd (pG f r) ((vL f r).idxOf v:Int)=sU f (vL f r) v:=fun v hv=>by simp only[nd,pG,zZ,List.getElem?_map,iw hv,zM,Option.getD_some]
 have jN:∀v∈vL f r,uL f v:=o1.seen.ing;have C3:∀v∈vL f r,lU (sU f (vL f r) v).Arcs:=fun v hv=>WI (Ge (hf _ (Ex (jN v hv)).2).dis);refine⟨by simp[pG],by simp only[pG,yA];exact o1.seen.len,?_,?_,oU,?_,?_⟩;obtain⟨t,ht⟩:=o1.head;simp[pG,ht];intro x hx;simp only[pG,List.mem_map]at hx;obtain⟨v,hv,rfl⟩:=hx;have hn:=hf _ (Ex (jN v hv)).2;refine⟨hn.ty,(C3 v hv).dis,fun a ha=>?_⟩;simp only[sU,List.mem_map]at ha;obtain⟨b,hb,rfl⟩:=ha;have cU:=J3.1 hb;refine⟨(hn.arc b cU).1,by simp only[sS];omega,?_⟩;have:=List.idxOf_lt_length_of_mem (o1.clo v hv b cU);simp only[sS,pG,yA];omega;intro x hx;simp only[pG,List.mem_map]at hx;obtain⟨v,hv,rfl⟩:=hx;exact C3 v hv;refine⟨fun v hv a ha=>o1.clo v hv a (J3.1 ha),fun u v hu hv e=>?_,fun v hv=>?_,fun v hv=>?_⟩;have h1:=iw hu;have h2:=iw hv;have e':(vL f r).idxOf u=(vL f r).idxOf v:=Int.ofNat.inj e;rw[e',h2]at h1;exact(Option.some.inj h1).symm;simp only[oU v hv,sU];simp only[nA,oU v hv];rw[z5q (C3 v hv)];rfl
theorem d6.canon{k:Nat}(hs:d6 f k)(hf:AE f)(hr:uL f r):d6 (pG f r) k:=by
 have hc:=z2c hf hr;obtain⟨o1,_⟩:=Gj hf hr;refine⟨Nat.le_trans hc.le hs.nodes,fun x hx=>?_⟩;simp only[pG,List.mem_map]at hx;obtain⟨v,hv,rfl⟩:=hx;simp only[sU,yA,nA];rw[(OU _).length_eq];exact hs.arcs _ (Ex (o1.seen.ing v hv)).2
theorem qr2{N:Nat}:∀{l:List aK}{s s':List Int},(∀x,x∈s↔x∈s')->E8 N s l=E8 N s' l
 |[],s,s',_=>rfl|a::l,s,s',h=>by simp only[E8];rw[qr2 (l:=l) (s:=a.Feat::s) (s':=a.Feat::s') fun x=>by simp only[zI,h x]];by_cases h1:a.Feat∈s;simp only[h1,(h _).1 h1,if_true];simp only[h1,mt (h _).2 h1,if_false]
theorem z1t{l:List aK}(hl:l.length<=1000000){i:Nat}{x:aK}(hx:l[i]? = some x)(hi:i<l.length){rc:Int->Option Int}:∀(m k:Nat),i-k<m->k<=i->
  Ic l i rc m k=if x.Feat∈((l.take i).drop k).map aK.Feat then some 4 else rc (IntKind.i64.wrap ((i:Int)+1))
 |0,k,hm,_=>by omega
 |m+1,k,hm,hk=>by
  unfold Ic;by_cases aE:k<i;obtain⟨y,hy,_⟩:=eM (l:=l) (i:=k) (by omega);have FU:(l.take i)[k]? = some y:=by rw[List.getElem?_take_of_lt aE];exact hy
  have hd:decide ((k:Int)<(i:Int))=true:=hH aE;have hw:IntKind.i64.wrap ((k:Int)+1)=((k+1:Nat):Int):=EA (by omega) (by omega);simp only[hd,zC,cK,hy,hx,aO,aW FU,zQ,zI,hw];by_cases e:y.Feat=x.Feat;simp[e];have e2:(y.Feat==x.Feat)=false:=by simpa using e
  have e3:¬ x.Feat=y.Feat:=fun h=>e h.symm;simp only[e2,zD,e3,false_or];exact z1t hl hx hi m (k+1) (by omega) (by omega);have hd:decide ((k:Int)<(i:Int))=false:=iF aE;have:(l.take i).drop k=[]:=List.drop_eq_nil_of_le (by simp;omega);simp only[hd,zD,vq,this,List.map_nil,List.not_mem_nil,if_false]
theorem z1s{l:List aK}{N n:Nat}(hl:l.length<=1000000)(hn:l.length<n):∀(m i:Nat),l.length-i<m->i<=l.length->P5 l N n m i=some (E8 N ((l.take i).map aK.Feat) (l.drop i))
 |0,i,hm,_=>by omega
 |m+1,i,hm,hi=>by
  unfold P5;by_cases aE:i<l.length;obtain⟨a,ha,_⟩:=eM aE;have h2:=z1t hl ha aE (rc:=P5 l N n m) n 0 (by omega) (by omega);rw[zV,List.drop_zero]at h2;simp only[hH aE,zC,cK,ha,aO,aW ha,E8];by_cases h1:a.Feat<0;simp[h1,aO];by_cases h3:a.To<0;simp[h1,h3,aO];by_cases h4:a.To>=(N:Int);simp[h1,h3,h4,aO];simp only[h1,h3,h4,yB,zD,aO,or_self,if_false,h2,iU aE (show l.length<=9223372036854775807 by omega)];rw[z1s hl hn m (i+1) (by omega) (by omega),j9 ha];by_cases h5:a.Feat∈(l.take i).map aK.Feat;simp only[h5,if_true];simp only[h5,if_false];congr 1;exact qr2 fun x=>by simp[or_comm]
  simp only[iF aE,zD,vr,bT aE,E8]
theorem z32{f:GFS}{k:Nat}(hf:d6 f k)(hk:k<=1000000){n:Nat}(hn:k<n):∀(m i:Nat),f.Nodes.length-i<m->i<=f.Nodes.length->Ib f n m i=some (R2 f.Nodes.length (f.Nodes.drop i))
 |0,i,hm,_=>by omega
 |m+1,i,hm,hi=>by
  have y4:=hf.nodes;unfold Ib;by_cases aE:i<f.Nodes.length;obtain⟨x,hx,gM⟩:=eM aE;have eS:=hf.arcs x gM;have h2:=z1s (l:=x.Arcs) (N:=f.Nodes.length) (n:=n) (by omega) (by omega) n 0 (by omega) (by omega);rw[zV,List.drop_zero,List.take_zero,List.map_nil]at h2;simp only[hH aE,zC,cK,hx,aO,aW hx,R2,GB,jn,h2,iU aE (show f.Nodes.length<=9223372036854775807 by omega)];by_cases h1:x.Typex<0;simp[h1];simp only[h1,yB,zD,if_false];by_cases h3:E8 f.Nodes.length [] x.Arcs=0;simp only[h3,bne_self_eq_false,zD,ne_eq,not_true,if_false];exact z32 hf hk hn m (i+1) (by omega) (by omega);have hb:(E8 f.Nodes.length [] x.Arcs != 0)=true:=by simpa using h3
  simp only[hb,zC,h3,ne_eq,not_false_eq_true,if_true];simp only[iF aE,zD,vp,bT aE,R2]
variable{f:GFS}
variable{k:Nat}
variable{n:Nat}
theorem zax(hf:d6 f k)(hk:k<=1000000)(hn:k<n):Pw n f=some (I4 f):=by
 have y4:=hf.nodes;unfold Pw I4;by_cases h0:f.Nodes.length=0;simp[h0];have e0:((f.Nodes.length:Int)==0)=false:=by simp;intro h;simp[h]at h0
 simp only[e0,zD,h0,if_false];by_cases h1:f.Nodes.length>4096;have:(f.Nodes.length:Int)>4096:=by omega
 simp[h1,this];have:¬ (f.Nodes.length:Int)>4096:=by omega
 simp only[h1,this,yB,zD,if_false];have h:=z32 hf hk hn n 0 (by omega) (by omega);rw[zV,List.drop_zero]at h;exact h
theorem z9j{l:List aK}{i:Nat}{x:aK}(hx:l[i]? = some x){out:List aK}(y3:out.length<=1000000)(C3:lU out){rc:Int->List aK->Option (List aK)}:∀(m p:Nat),p<m->p<=out.length->(∀a∈out.drop p,x.Feat<a.Feat)->
  ∃q,q<=out.length/\Is l i out rc m p=Iu l i out rc (q:Int)/\(∀a∈out.drop q,x.Feat<a.Feat)/\(∀a∈out.take q,a.Feat<=x.Feat)
 |0,p,hm,_,_=>by omega
 |m+1,p,hm,hp,hd=>by
  unfold Is;cases p with
  |zero=>
   have:¬ ((0:Nat):Int)>0:=by omega
   simp only[this,yB,zD,aO];exact⟨0,by omega,rfl,hd,by simp⟩
  |succ p=>
   have h0:((p+1:Nat):Int)>0:=by omega
   have hw:IntKind.i64.wrap (((p+1:Nat):Int)-1)=(p:Int):=EA (by omega) (by omega);obtain⟨y,hy,_⟩:=eM (l:=out) (i:=p) (by omega);simp only[h0,yC,zC,hw,cK,hy,hx,aO];by_cases e:y.Feat>x.Feat;simp only[e,yC,zC];refine z9j hx y3 C3 m p (by omega) (by omega) fun a ha=>?_;rw[aW hy]at ha;rcases zI.1 ha with rfl |ha
   omega;exact hd a ha;simp only[e,yB,zD];refine⟨p+1,hp,rfl,hd,fun a ha=>?_⟩;obtain⟨j,hj,rfl⟩:=List.mem_iff_getElem.1 ha;simp only[List.length_take]at hj;rw[List.getElem_take];obtain⟨k?,ey⟩:=zG.1 hy;by_cases ej:j=p;subst ej;rw[ey];omega;have:=List.pairwise_iff_getElem.1 C3 j p (by omega) k? (by omega);rw[ey]at this;omega
theorem Ar{l:List aK}{i:Nat}{x:aK}(hx:l[i]? = some x){out:List aK}(y3:out.length<=1000000){rc:Int->List aK->Option (List aK)}{q:Nat}(hq:q<=out.length):
  Iu l i out rc (q:Int)=rc (IntKind.i64.wrap ((i:Int)+1)) (out.take q++x::out.drop q):=by
 have e1:(out.drop 0).take ((q:Int)).toNat=out.take q:=by rw[List.drop_zero,zZ]
 have e2:(out.drop (0+((q:Int)).toNat)).take (out.length-((q:Int)).toNat)=out.drop q:=by rw[zZ,Nat.zero_add,zW (by simp)]
 have l1:(out.take q).length=q:=by simp;omega
 have n1:(0:Int)<=(q:Int)/\(q:Int)<=((out.length:Nat):Int):=by omega
 have n2:0+((q:Int)).toNat<=out.length:=by rw[zZ];omega
 have n3:(out.take q).length*16<=140737488355328/\(out.take q).length<=140737488355328:=by omega
 have n4:((out.take q).length+1)*16<=140737488355328/\(out.take q).length+1<=140737488355328:=by omega
 have n5:(0+((q:Int)).toNat)+(out.length-((q:Int)).toNat)<=out.length:=by rw[zZ];omega
 have n6:((out.take q++[x]).length+(out.drop q).length)*16<=140737488355328/\(out.take q++[x]).length+(out.drop q).length<=140737488355328:=by simp;omega
 unfold Iu;simp only[aF,e1,e2,cK,hx,aO];rw[if_pos n1,if_pos n2,if_pos n3,if_pos n4,if_pos n1,if_pos n5,if_pos n6];simp
theorem z9i{l:List aK}(hl:l.length<=1000000)(hd:mI l){n:Nat}(hn:l.length<n):∀(m i:Nat),l.length-i<m->i<=l.length->PK l n m i (xM (l.take i))=some (xM l)
 |0,i,hm,_=>by omega
 |m+1,i,hm,hi=>by
  have hdi:mI (l.take i):=hd.sublist (List.take_sublist i l);have y3:(xM (l.take i)).length=i:=by rw[(OU _).length_eq];simp;omega
  unfold PK;by_cases aE:i<l.length;obtain⟨x,hx,_⟩:=eM aE;obtain⟨q,q1,q2,q3,q4⟩:=z9j hx (out:=xM (l.take i)) (by omega) (Ge hdi) (rc:=PK l n m) n (xM (l.take i)).length (by omega) (zF _) (by simp);simp only[hH aE,zC,q2,Ar hx (show(xM (l.take i)).length<=1000000 by omega) q1,iU aE (show l.length<=9223372036854775807 by omega)];have Ca:mI (l.take (i+1)):=hd.sublist (List.take_sublist _ l);have Vo:((xM (l.take i)).take q++x::(xM (l.take i)).drop q).Perm (l.take (i+1)):=by rw[j9 hx];refine List.perm_middle.trans ?_;rw[List.take_append_drop];exact((OU (l.take i)).cons x).trans (List.perm_append_comm (l₁:=[x]) (l₂:=l.take i))
  have cZ:∀a∈xM (l.take i),a.Feat≠x.Feat:=fun a ha e=>by rw[j9 hx]at Ca;have:=(List.pairwise_append.1 Ca).2.2 a ((OU _).mem_iff.1 ha) x (by simp);exact this e
  have C3:lU ((xM (l.take i)).take q++x::(xM (l.take i)).drop q):=by have h0:=Ge hdi;unfold lU at*;rw[List.pairwise_append];refine⟨h0.sublist (List.take_sublist _ _),List.pairwise_cons.2 ⟨q3,h0.sublist (List.drop_sublist _ _)⟩,fun a ha b hb=>?_⟩;have h1:=q4 a ha;have h2:=cZ a (List.mem_of_mem_take ha);rcases zI.1 hb with rfl |hb;omega;have:=q3 b hb;omega
  rw[<-z5r Ca Vo C3];exact z9i hl hd hn m (i+1) (by omega) (by omega);simp only[iF aE,zD,mz];rw[zW (by omega)]
theorem qno{l:List aK}(hl:l.length<=1000000)(hd:mI l)(hn:l.length<n):Rb n l=some (xM l):=by
 have h:=z9i hl hd hn n 0 (by omega) (by omega);rw[zV,List.take_zero]at h;exact h
structure LP(f:GFS)(w:List Int)(o:List Int):Prop where
 len:w.length=f.Nodes.length
 get:∀x,uL f x->aB w x=some (if x∈o then(o.idxOf x:Int)else -1)
theorem LP.snoc{w o:List Int}(h:LP f w o){v:Int}(hv:uL f v)(hn:v ∉ o):LP f (w.set (0+v.toNat) (o.length:Int)) (o++[v]):=by
 refine⟨by simp[h.len],fun x hx=>?_⟩;have uH:v.toNat<w.length:=by rw[h.len];have:=hv.1;have:=hv.2;omega
 have hc:0<=x/\x<((w.set (0+v.toNat) (o.length:Int)).length:Int):=by rw[List.length_set,h.len];exact hx
 have h2:=h.get x hx;have Cd:0<=x/\x<(w.length:Int):=by rw[h.len];exact hx
 rw[aB,if_pos Cd]at h2;rw[aB,if_pos hc,Nat.zero_add];by_cases e:x=v;subst e;simp[List.idxOf_append,hn,uH];rw[List.getElem?_set_ne (by have:=hx.1;have:=hv.1;omega),h2];by_cases Ax:x∈o;simp[Ax,List.idxOf_append];simp[Ax,e]
theorem qvz{f:GFS}{k:Nat}(hg:AE f)(hf:d6 f k)(hk:k<=1000000):∀(n:Nat)(o:List Int)(v:Int)(w:List Int),Seen f o->uL f v->v ∉ o->LP f w o->f.Nodes.length-o.length+k+2<=n->
  ∃w',PO n v f.Nodes w o=some (w',dfs f n o v)/\LP f w' (dfs f n o v)
 |0,o,v,w,hs,hv,hn,hw,gk=>by omega
 |n+1,o,v,w,hs,hv,hn,hw,gk=>by
  have xZ:=hs.snoc hv hn;have G3:=xZ.len;simp only[zU,zO,zS]at G3;obtain⟨hx,gM⟩:=Ex hv;have eE:=hg _ gM;have eS:=hf.arcs _ gM;have y4:=hf.nodes;have JZ:(nA f v).length=(nd f v).Arcs.length:=(OU _).length_eq;have key:∀(m i:Nat)(p:List Int)(w:List Int),(nA f v).length-i<m->i<=(nA f v).length->Seen f p->o.length+1<=p.length->LP f w p->
    ∃w',TG f.Nodes (nA f v) (PO n) m i w p=some (w',((nA f v).drop i).foldl (mM (dfs f n)) p)/\LP f w' (((nA f v).drop i).foldl (mM (dfs f n)) p):=by
   intro m;induction m with
   |zero=>intro i p w hm;omega|succ m ih=>
    intro i p w hm hi hp nI hw;unfold TG;by_cases aE:i<(nA f v).length;obtain⟨a,ha,xD⟩:=eM aE;have h1:=eE.arc a (J3.1 xD);have F?:uL f a.To:=⟨h1.2.1,h1.2.2⟩;have Kb:IntKind.i64.wrap ((i:Int)+1)=((i+1:Nat):Int):=iU aE (by omega);simp only[hH aE,zC,cK,ha,aO,hw.get _ F?,aW ha,List.foldl_cons];by_cases C8:a.To∈p;have Bl:¬ ((p.idxOf a.To:Nat):Int)<0:=by omega
    simp only[C8,if_true,Bl,yB,zD,Jq,Kb,mM];exact ih (i+1) p w (by omega) (by omega) hp nI hw;have Bl:(-1:Int)<0:=by decide
    simp only[C8,if_false,Bl,yC,zC,Jq,Kb,mM];obtain⟨w1,g1,g2⟩:=qvz hg hf hk n p a.To w hp F? C8 hw (by omega);obtain⟨d1,⟨t,d2⟩,_,_⟩:=wl hg n p a.To hp F? C8 (by omega);simp only[g1,aO];exact ih (i+1) _ w1 (by omega) (by omega) d1 (by rw[d2];simp;omega) g2;rw[bT aE];simp only[iF aE,zD,pb,List.foldl_nil];exact⟨w,rfl,hw⟩
  have yZ:(o.length+1)*8<=140737488355328/\o.length+1<=140737488355328:=by omega
  obtain⟨w',g1,g2⟩:=key n 0 (o++[v]) _ (by omega) (by omega) xZ (by simp) (hw.snoc hv hn);rw[zV,List.drop_zero]at g1;rw[List.drop_zero]at g2;refine⟨w',?_,g2⟩;show ss n (PO n) v f.Nodes w o=_;simp only[ss,hw.get _ hv,aF,yZ,and_self,if_true,hx,aO,qno (show(nd f v).Arcs.length<=1000000 by omega) eE.dis (show(nd f v).Arcs.length<n by omega)];exact g1
theorem z38{f:GFS}{o w:List Int}{z:Int}{l27:List aN}{rc:Int->List aN->Option GFS}{x:aN}{l:List aK}(hl:l.length<=1000000)(hw:LP f w o)(jN:∀a∈l,a.To∈o)(Vz:∀v∈o,uL f v):∀(m i:Nat),l.length-i<m->i<=l.length->
  YV (w,o) z l27 rc x m i ((l.take i).map (sS o)++l.drop i)=Rj z l27 rc x (l.map (sS o))
 |0,i,hm,_=>by omega
 |m+1,i,hm,hi=>by
  unfold YV;have b7:((l.take i).map (sS o)++l.drop i).length=l.length:=by simp;omega
  rw[b7];by_cases aE:i<l.length;obtain⟨a,ha,xD⟩:=eM aE;have e1:(((l.take i).map (sS o)++l.drop i))[i]? = some a:=by rw[List.getElem?_append_right (by simp;omega)];simp[show min i l.length=i by omega,ha]
  have e2:(((l.take i).map (sS o)++l.drop i)).set (0+(i:Int).toNat) (sS o a)=(l.take (i+1)).map (sS o)++l.drop (i+1):=by
   rw[aW ha,j9 ha];have h3:((l.take i).map (sS o)).length=i:=by simp;omega
   have:=XH ((l.take i).map (sS o)) (l.drop (i+1)) a (sS o a);rw[h3]at this;rw[Nat.zero_add,zZ,this,List.map_append,zQ,List.map_nil,zT];rfl
  have tC:=jN a xD;have e3:(⟨a.Feat,(o.idxOf a.To:Int)⟩:aK)=sS o a:=rfl;simp only[hH aE,zC,cK,e1,aO,hw.get _ (Vz _ tC),tC,if_true,e3,e2,iU aE (show l.length<=9223372036854775807 by omega)];exact z38 hl hw jN Vz m (i+1) (by omega) (by omega);simp only[iF aE,zD];rw[zW (by omega),List.drop_eq_nil_of_le (by omega),List.append_nil]
theorem z37{f:GFS}{k:Nat}(hg:AE f)(hf:d6 f k)(hk:k<=1000000){n:Nat}(hn:k+2<=n){r:Int}{o w:List Int}(ho:VX f r o)(hw:LP f w o):∀(m i:Nat),o.length-i<m->i<=o.length->
  P6 f n (w,o) m i ((o.take i).map (sU f o))=some ⟨o.map (sU f o)⟩
 |0,i,hm,_=>by omega
 |m+1,i,hm,hi=>by
  have y3:=ho.seen.len;have y4:=hf.nodes;unfold P6;by_cases aE:i<o.length;obtain⟨v,hv,O_⟩:=eM aE;obtain⟨hx,gM⟩:=Ex (ho.seen.ing v O_);have eE:=hg _ gM;have eS:=hf.arcs _ gM;have JZ:(nA f v).length=(nd f v).Arcs.length:=(OU _).length_eq;have h2:=z38 (z:=(i:Int)) (l27:=(o.take i).map (sU f o)) (rc:=P6 f n (w,o) m) (x:=nd f v) (l:=nA f v) (by omega) hw (fun a ha=>ho.clo v O_ a (J3.1 ha)) ho.seen.ing n 0 (by omega) (by omega);rw[zV,List.take_zero,List.map_nil,List.nil_append,List.drop_zero]at h2;have yZ:(((o.take i).map (sU f o)).length+1)*32<=140737488355328/\((o.take i).map (sU f o)).length+1<=140737488355328:=by simp;omega
  have hso:=qno (show(nd f v).Arcs.length<=1000000 by omega) eE.dis (show(nd f v).Arcs.length<n by omega);simp only[hH aE,zC,cK,hv,hx,aO,hso];show YV (w,o) i _ _ (nd f v) n 0 (nA f v)=_;rw[h2];simp only[Rj,aF];rw[if_pos yZ,iU aE (show o.length<=9223372036854775807 by omega)];have:=z37 hg hf hk hn ho hw m (i+1) (by omega) (by omega);rw[j9 hv]at this;simpa[sU,nA]using this;simp only[iF aE,zD,vt];rw[zW (by omega)]
theorem z36{f:GFS}(hN:f.Nodes.length<=1000000){r:Int}{n:Nat}:∀(m i:Nat),f.Nodes.length-i<m->i<=f.Nodes.length->Ie f r n m i (List.replicate i (-1))=Rk f r n (List.replicate f.Nodes.length (-1))
 |0,i,hm,_=>by omega
 |m+1,i,hm,hi=>by
  unfold Ie;by_cases aE:i<f.Nodes.length;have yZ:((List.replicate i (-1:Int)).length+1)*8<=140737488355328/\(List.replicate i (-1:Int)).length+1<=140737488355328:=by simp;omega
  have e:List.replicate i (-1:Int)++[-1]=List.replicate (i+1) (-1):=by rw[List.replicate_succ']
  simp only[hH aE,zC,aF];rw[if_pos yZ,iU aE (show f.Nodes.length<=9223372036854775807 by omega),e];exact z36 hN m (i+1) (by omega) (by omega);simp only[iF aE,zD];rw[show i=f.Nodes.length by omega]
theorem z3a(hg:AE f)(hf:d6 f k)(hk:k<=1000000){r:Int}(hr:uL f r)(hn:2*k+4<=n):Hf n f r=some (pG f r):=by
 obtain⟨ho,bY⟩:=Gj hg hr;have y4:=hf.nodes;have h0:LP f (List.replicate f.Nodes.length (-1)) []:=⟨by simp,fun x hx=>by
  have hc:0<=x/\x<((List.replicate f.Nodes.length (-1:Int)).length:Int):=by rw[List.length_replicate];exact hx
  rw[aB,if_pos hc];have:x.toNat<f.Nodes.length:=by have:=hx.1;have:=hx.2;omega
  simp[this]⟩
 obtain⟨w,g1,g2⟩:=qvz hg hf hk n [] r _ (Seen.nil f) hr (by simp) h0 (by simp;omega);rw[bY n (by omega)]at g1 g2;have y3:=ho.seen.len;have h1:=z37 hg hf hk (show k+2<=n by omega) ho g2 n 0 (by omega) (by omega);rw[zV,List.take_zero,List.map_nil]at h1;have h2:=z36 (f:=f) (by omega) (r:=r) (n:=n) n 0 (by omega) (by omega);rw[zV,List.replicate_zero]at h2;simp only[Hf,h2,Rk,g1,aO,h1,pG]
theorem qx7(hf:d6 f k)(hk:k<=1000000)(hn:2*k+4<=n):Qk n f=some (if I4 f=0 then(pG f 0,0)else(⟨[]⟩,I4 f)):=by
 simp only[Qk,zax hf hk (show k<n by omega),aO];by_cases he:I4 f=0;obtain⟨e1,e2,e3⟩:=quh.1 he;simp[he,z3a e3 hf hk (r:=0) ⟨by omega,by omega⟩ hn,aO];have hb:(I4 f != 0)=true:=by simpa using he
 simp[he,hb]
end Go.Proofs
namespace Go.Proofs
open Go Go.Rx Go.Vx
def xP(l:List aK)(f:Int):Bool:=l.any (fun x=>x.Feat==f)
variable{f:Int}
theorem MG{l:List aK}:xP l f=true↔∃x∈l,x.Feat=f:=by simp[xP]
def nB(a b:List aK):List aK:=b.filter fun y=>!xP a y.Feat
def prs(a b:List aK):List (Int×Int):=b.filterMap fun y=>(a.find? fun x=>x.Feat==y.Feat).map fun x=>(x.To,y.To)
structure rH(a b out:List aK):Prop where
 up:lU out
 pm:out.Perm (a++nB a b)
variable{a:List aK}
variable{b:List aK}
variable{o:List aK}
theorem rH.uniq{o':List aK}(h:rH a b o)(h':rH a b o'):o=o':=dh h.up h'.up (h.pm.trans h'.pm.symm)
variable{x:aK}
theorem z2y(hd:mI a)(hx:x∈a)(hf:x.Feat=f):a.find? (fun x=>x.Feat==f)=some x:=by
 have key:∀o,a.find? (fun x=>x.Feat==f)=o->o=some x:=by intro o h;rcases o with _|y;have:=List.find?_eq_none.1 h x hx;simp[hf]at this;have h1:=List.find?_some h;have h2:=List.mem_of_find?_eq_some h;simp at h1;rw[hd.eq y h2 x hx (by omega)]
 exact key _ rfl
theorem z2z(h:∀x∈a,x.Feat≠f):a.find? (fun x=>x.Feat==f)=none:=by
 rw[List.find?_eq_none];intro x hx;simpa using h x hx
theorem ir(a b:List aK)(y:aK):nB a (b++[y])=nB a b++(if xP a y.Feat then[]else[y]):=by
 unfold nB;rw[List.filter_append];cases h:xP a y.Feat<;>simp[h]
theorem qpm(hd:mI a){y:aK}(hx:x∈a)(hf:x.Feat=y.Feat):prs a (b++[y])=prs a b++[(x.To,y.To)]:=by
 simp[prs,List.filterMap_append,z2y hd hx hf]
theorem qnk{y:aK}(h:∀x∈a,x.Feat≠y.Feat):prs a (b++[y])=prs a b:=by
 simp[prs,List.filterMap_append,z2z h]
theorem Gi(a:List aK):∀b:List aK,(nB a b).length+(prs a b).length=b.length
 |[]=>rfl|y::b=>by
  have ih:=Gi a b;unfold nB prs at*;cases h:a.find? (fun x=>x.Feat==y.Feat)with
  |none=>
   have h2:xP a y.Feat=false:=by rw[List.find?_eq_none]at h;rw[Bool.eq_false_iff];intro e;obtain⟨x,hx,he⟩:=MG.1 e;have:=h x hx;simp[he]at this
   simp only[List.filter_cons,h2,Bool.not_false,if_true,List.filterMap_cons,h,Option.map_none,zO];omega
  |some x=>have h2:xP a y.Feat=true:=MG.2 ⟨x,List.mem_of_find?_eq_some h,by have:=List.find?_some h;simpa using this⟩;simp only[List.filter_cons,h2,Bool.not_true,Bool.false_eq_true,if_false,List.filterMap_cons,h,zM,zO];omega
theorem af{p:Int×Int}(h:p∈prs a b):∃x∈a,∃y∈b,x.Feat=y.Feat/\p=(x.To,y.To):=by
 obtain⟨y,hy,e⟩:=List.mem_filterMap.1 h;rcases h1:a.find? (fun x=>x.Feat==y.Feat)with _|x;rw[h1]at e;cases e;rw[h1]at e;have h2:=List.find?_some h1;exact⟨x,List.mem_of_find?_eq_some h1,y,hy,by simpa using h2,(Option.some.inj e).symm⟩
theorem rH.len(h:rH a b o):o.length+(prs a b).length=a.length+b.length:=by
 have h1:=h.pm.length_eq;have h2:=Gi a b;rw[zU]at h1;omega
theorem rH.mem(h:rH a b o)(hx:x∈o):x∈a\/x∈b:=by
 rcases yD.1 (h.pm.mem_iff.1 hx)with h1 |h1;exact Or.inl h1;exact Or.inr (List.mem_filter.1 h1).1
def J1:List aK->List aK->List aK
 |[],b=>b|a,[]=>a
 |x::a,y::b=>if x.Feat<y.Feat then x::J1 a (y::b)else if y.Feat<x.Feat then y::J1 (x::a) b else x::J1 a b
termination_by a b=>a.length+b.length
theorem z7w(b:List aK):nB [] b=b:=by simp[nB,xP]
theorem z4c(h:∀y∈b,x.Feat≠y.Feat):nB (x::a) b=nB a b:=by
 unfold nB;apply List.filter_congr;intro y hy;have:=h y hy;simp[xP,this]
theorem rH.step(h:rH a b o)(hx:∀y∈o,x.Feat<y.Feat)(hb:∀y∈b,x.Feat≠y.Feat):rH (x::a) b (x::o):=
 ⟨List.pairwise_cons.2 ⟨hx,h.up⟩,by rw[z4c hb];exact h.pm.cons x⟩
theorem YM:∀(a b:List aK),lU a->lU b->rH a b (J1 a b)
 |[],b,_,hb=>by rw[J1];exact⟨hb,by rw[z7w];exact .refl _⟩
 |x::a,[],ha,_=>by rw[J1];exact⟨ha,by simp[nB]⟩;intro h;cases h
 |x::a,y::b,ha,hb=>by
  obtain⟨h1,h2⟩:=List.pairwise_cons.1 ha;obtain⟨h3,h4⟩:=List.pairwise_cons.1 hb;rw[J1];by_cases e1:x.Feat<y.Feat;rw[if_pos e1];have ih:=YM a (y::b) h2 hb;have hyb:∀z∈y::b,x.Feat<z.Feat:=fun z hz=>by rcases zI.1 hz with rfl |hz;exact e1;have:=h3 z hz;omega
  refine ih.step (fun z hz=>?_) (fun z hz=>by have:=hyb z hz;omega);rcases ih.mem hz with hz |hz;exact h1 z hz;exact hyb z hz;rw[if_neg e1];by_cases e2:y.Feat<x.Feat;rw[if_pos e2];have ih:=YM (x::a) b ha h4;have pu:∀z∈x::a,y.Feat<z.Feat:=fun z hz=>by rcases zI.1 hz with rfl |hz;exact e2;have:=h1 z hz;omega
  refine⟨List.pairwise_cons.2 ⟨fun z hz=>?_,ih.up⟩,?_⟩;rcases ih.mem hz with hz |hz;exact pu z hz;exact h3 z hz;have e:nB (x::a) (y::b)=y::nB (x::a) b:=by
   have:xP (x::a) y.Feat=false:=by rw[Bool.eq_false_iff];intro h;obtain⟨z,hz,e⟩:=MG.1 h;have:=pu z hz;omega
   unfold nB;simp[List.filter_cons,this]
  rw[e];exact(ih.pm.cons y).trans List.perm_middle.symm;rw[if_neg e2];have e:x.Feat=y.Feat:=by omega
  have ih:=YM a b h2 h4;have h5:=ih.step (x:=x) (fun z hz=>by rcases ih.mem hz with hz |hz;exact h1 z hz;have:=h3 z hz;omega) (fun z hz=>by have:=h3 z hz;omega);refine⟨h5.up,h5.pm.trans ?_⟩;have:nB (x::a) (y::b)=nB (x::a) b:=by have:xP (x::a) y.Feat=true:=MG.2 ⟨x,by simp,e⟩;unfold nB;simp[List.filter_cons,this]
  rw[this]
 termination_by a b=>a.length+b.length
theorem z4t(a:List aK):prs a []=[]:=rfl
variable{a:List aK}
theorem rH.nilr(ha:lU a):rH a [] a:=⟨ha,by simp[nB]⟩
theorem rH.inn{b o:List aK}{x y:aK}(h:rH a b o)(hx:x∈a)(e:x.Feat=y.Feat):rH a (b++[y]) o:=⟨h.up,by
 have:xP a y.Feat=true:=MG.2 ⟨x,hx,e⟩;rw[ir,this];simpa using h.pm⟩
theorem rH.out{b o:List aK}{y:aK}{k:Nat}(h:rH a b o)(h1:∀z∈o.take k,z.Feat<y.Feat)(h2:∀z∈o.drop k,y.Feat<z.Feat):rH a (b++[y]) (o.take k++y::o.drop k):=by
 have hu:=h.up;rw[<-List.take_append_drop k o]at hu;obtain⟨u1,u2,u3⟩:=List.pairwise_append.1 hu;have hn:xP a y.Feat=false:=by rw[Bool.eq_false_iff];intro e;obtain⟨z,hz,e⟩:=MG.1 e;have hz:z∈o:=h.pm.mem_iff.2 (List.mem_append_left _ hz);rw[<-List.take_append_drop k o]at hz;rcases yD.1 hz with hz |hz;have:=h1 z hz;omega;have:=h2 z hz;omega
 refine⟨List.pairwise_append.2 ⟨u1,List.pairwise_cons.2 ⟨h2,u2⟩,fun z hz w hw=>?_⟩,?_⟩;rcases zI.1 hw with rfl |hw;exact h1 z hz;exact u3 z hz w hw;rw[ir,hn];refine List.perm_middle.trans ?_;rw[List.take_append_drop];have:(y::o).Perm (y::(a++nB a b)):=h.pm.cons y;refine this.trans ?_;simp only[Bool.false_eq_true,if_false];rw[<-zT];exact(List.perm_append_singleton y _).symm
structure Fj(N D:Nat)(aA d:Nat->Nat):Prop where
 lt:∀i,i<N->aA i<N
 idem:∀i,i<N->aA (aA i)=aA i
 zero:∀i,i<N->d (aA i)=0
 bd:∀i,i<N->d i<=D
def gS(aA:Nat->Nat)(m n i:Nat):Nat:=if aA i=n then m else aA i
def GO(aA d:Nat->Nat)(n i:Nat):Nat:=if aA i=n then d i+1 else d i
def Ny(N:Nat)(aA d:Nat->Nat)(i j:Nat):Prop:=j<N/\aA j=aA i/\d j<d i
structure wn(cells:List aS)(N:Nat)(aA d:Nat->Nat):Prop where
 root:∀(i:Nat)(c:aS),cells[i]? = some c->aA i=i->c.forward= -1
 fwd:∀(i:Nat)(c:aS),cells[i]? = some c->aA i≠i->∃j:Nat,c.forward=(j:Int)/\Ny N aA d i j
variable{N:Nat}
variable{D:Nat}
variable{aA:Nat->Nat}
variable{d:Nat->Nat}
variable{m:Nat}
variable{n:Nat}
theorem Fj.mrg(h:Fj N D aA d)(hm:m<N)(em:aA m=m)(en:aA n=n)(vY:m≠n):Fj N (D+1) (gS aA m n) (GO aA d n) where
 lt i hi:=by unfold gS;split;exact hm;exact h.lt i hi
 idem i hi:=by have h1:=h.idem i hi;unfold gS;by_cases e:aA i=n;simp[e,em,vY];simp[e,h1]
 zero i hi:=by have h1:=h.idem i hi;have h2:=h.zero i hi;have h3:=h.zero m hm;unfold gS GO;rw[em]at h3;by_cases e:aA i=n;simp[e,em,vY,h3];simp[e,h1,h2]
 bd i hi:=by have:=h.bd i hi;unfold GO;split<;>omega
variable{i:Nat}
theorem Ny.mrg{D:Nat}{j:Nat}(h:Ny N aA d i j):Ny N (gS aA m n) (GO aA d n) i j:=by
 obtain⟨h1,h2,h3⟩:=h;refine⟨h1,by simp[gS,h2],?_⟩;unfold GO;rw[h2];split<;>omega
theorem z7n(h:Fj N D aA d)(hm:m<N)(hn:n<N)(em:aA m=m)(en:aA n=n)(vY:m≠n):Ny N (gS aA m n) (GO aA d n) n m:=by
 have h3:=h.zero m hm;have h4:=h.zero n hn;rw[em]at h3;rw[en]at h4;refine⟨hm,by simp[gS,em,en,vY],?_⟩;simp[GO,em,en,vY,h3,h4]
theorem SD{O:Type}{l:List O}{k:Nat}{x y:O}(h:(l.set k x)[i]? = some y):(i=k/\y=x)\/(i≠k/\l[i]? = some y):=by
 rw[List.getElem?_set]at h;by_cases e:k=i;rw[if_pos e]at h;split at h;exact Or.inl ⟨e.symm,(Option.some.inj h).symm⟩;cases h;rw[if_neg e]at h;exact Or.inr ⟨fun q=>e q.symm,h⟩
theorem z5b(em:aA m=m)(vY:m≠n)(h:gS aA m n i=i):i≠n/\aA i=i:=by
 unfold gS at h;by_cases e:aA i=n;rw[if_pos e]at h;subst h;exact⟨vY,em⟩;rw[if_neg e]at h;exact⟨fun q=>e (by rw[h,q]),h⟩
theorem z8d(em:aA m=m)(h:gS aA m n i≠i)(hn:i≠n):aA i≠i:=by
 intro q;apply h;unfold gS;rw[q,if_neg hn]
theorem wn.mrg{cells:List aS}{N D:Nat}{aA d:Nat->Nat}(h:wn cells N aA d)(hr:Fj N D aA d){m n:Nat}(hm:m<N)(hn:n<N)(em:aA m=m)(en:aA n=n)(vY:m≠n)(t:Int)(o:List aK)(z:Int)(q:List aK):
  wn ((cells.set m ⟨-1,t,o⟩).set n ⟨(m:Int),z,q⟩) N (gS aA m n) (GO aA d n) where
 root i c hc hi:=by obtain⟨h1,h2⟩:=z5b em vY hi;rcases SD hc with⟨e,_⟩|⟨_,hc⟩;exact absurd e h1;rcases SD hc with⟨e,e2⟩|⟨_,hc⟩;subst e2;rfl;exact h.root i c hc h2
 fwd i c hc hi:=by rcases SD hc with⟨e,e2⟩|⟨h1,hc⟩;subst e2;subst e;exact⟨m,rfl,z7n hr hm hn em en vY⟩;have h2:=z8d em hi h1;rcases SD hc with⟨e,e2⟩|⟨_,hc⟩;subst e;exact absurd em h2;obtain⟨j,h3,h4⟩:=h.fwd i c hc h2;exact⟨j,h3,h4.mrg (D:=D)⟩
def tot(l:List aS):Nat:=(l.map fun c=>c.arcs.length).sum
theorem Gc:∀{l:List aS}{i:Nat}{x:aS}(c:aS),l[i]? = some x->tot (l.set i c)+x.arcs.length=tot l+c.arcs.length
 |[],i,x,c,h=>by simp at h
 |y::l,0,x,c,h=>by
  have:y=x:=by simpa using h
  subst this;simp only[List.set_cons_zero,tot,zQ,List.sum_cons];omega
 |y::l,i+1,x,c,h=>by have:=Gc (l:=l) (i:=i) c (by simpa using h);simp only[List.set_cons_succ,tot,zQ,List.sum_cons]at this ⊢;omega
theorem Gd:∀{l:List aS}{i:Nat}{x:aS},l[i]? = some x->x.arcs.length<=tot l:=fun{l i x} h=>by
 have:=Gc (aS.mk 0 0 []) h;simp only[zS]at this;omega
structure wN(N:Nat)(FB:Int)(l:List aK):Prop where
 up:lU l
 ok:∀a∈l,0<=a.Feat/\a.Feat<FB/\0<=a.To/\a.To<N
theorem wN.nil(N:Nat)(FB:Int):wN N FB []:=⟨List.Pairwise.nil,fun a h=>by cases h⟩
theorem rH.ok{N:Nat}{FB:Int}{a b o:List aK}(h:rH a b o)(ha:wN N FB a)(hb:wN N FB b):wN N FB o:=⟨h.up,fun x hx=>by
 rcases h.mem hx with h1 |h1;exact ha.ok x h1;exact hb.ok x h1⟩
structure mO(N D:Nat)(FB TB:Int)(cells:List aS)(aA d:Nat->Nat):Prop where
 rok:Fj N D aA d
 cok:wn cells N aA d
 len:cells.length=N
 ar:∀(i:Nat)(c:aS),cells[i]? = some c->wN N FB c.arcs
 kd:∀(i:Nat)(c:aS),cells[i]? = some c->0<=c.kind/\c.kind<TB
def xO(cells:List aS)(m n:Nat)(t:Int)(o:List aK):List aS:=(cells.set m ⟨-1,t,o⟩).set n ⟨(m:Int),0,[]⟩
theorem mO.mrg{N D:Nat}{FB TB:Int}{cells:List aS}{aA d:Nat->Nat}(h:mO N D FB TB cells aA d){m n:Nat}(hm:m<N)(hn:n<N)(em:aA m=m)(en:aA n=n)(vY:m≠n){t:Int}{o:List aK}(ho:wN N FB o)(ht:0<=t/\t<TB):
  mO N (D+1) FB TB (xO cells m n t o) (gS aA m n) (GO aA d n) where
 rok:=h.rok.mrg hm em en vY
 cok:=h.cok.mrg h.rok hm hn em en vY t o 0 []
 len:=by simp[xO,h.len]
 ar i c hc:=by rcases SD hc with⟨_,e⟩|⟨_,hc⟩;subst e;exact .nil N FB;rcases SD hc with⟨_,e⟩|⟨_,hc⟩;subst e;exact ho;exact h.ar i c hc
 kd i c hc:=by rcases SD hc with⟨_,e⟩|⟨_,hc⟩;subst e;exact⟨by simp,by show(0:Int)<TB;omega⟩;rcases SD hc with⟨_,e⟩|⟨_,hc⟩;subst e;exact ht;exact h.kd i c hc
theorem zbx{cells:List aS}{m n:Nat}{x y:aS}(hx:cells[m]? = some x)(hy:cells[n]? = some y)(vY:m≠n)(t:Int){o:List aK}(ho:rH x.arcs y.arcs o):
  tot (xO cells m n t o)+(prs x.arcs y.arcs).length=tot cells:=by
 have h1:=Gc ⟨-1,t,o⟩ hx;have FU:(cells.set m ⟨-1,t,o⟩)[n]? = some y:=by rw[List.getElem?_set_ne vY];exact hy
 have h2:=Gc ⟨(m:Int),0,[]⟩ FU;have h3:=ho.len;simp only[xO,zS]at*;omega
def qI(tr:List bD)(cells:List aS):List aS:=tr.foldr (fun x l=>l.set x.atx.toNat x.old) cells
theorem fu(tr:List bD)(x:bD)(cells:List aS):qI (tr++[x]) cells=qI tr (cells.set x.atx.toNat x.old):=by simp[qI]
theorem qzc{l:List aS}{k:Nat}{x y:aS}(h:l[k]? = some x):(l.set k y).set k x=l:=by
 rw[List.set_set];apply List.ext_getElem? fun i=>?_;rw[List.getElem?_set];by_cases e:k=i;subst e;have hk:=(zG.1 h).1;simp[hk]at h ⊢;exact h.symm;simp[e]
def rI(aA:Nat->Nat)(v:Int):Int:=(aA v.toNat:Int)
def pB(cells:List aS)(v:Int):aS:=(cells[v.toNat]?).getD ⟨-1,0,[]⟩
def Eu(out:List aN)(k:Nat)(l:List aK):List aN:=out.set k ⟨((out[k]?).map (·.Typex)).getD 0,l⟩
def vK(g:List Int×List aN->Int->Int×List Int×List aN):List aK->List Int×List aN->List aK->List aK×List Int×List aN
 |[],s,aX=>(aX,s)|a::l,s,aX=>vK g l (g s a.To).2 (aX++[⟨a.Feat,(g s a.To).1⟩])
def vis(cells:List aS)(aA:Nat->Nat):Nat->List Int×List aN->Int->Int×List Int×List aN
 |0,s,_=>(0,s)|k+1,s,v=>if rI aA v∈s.1 then((s.1.idxOf (rI aA v):Int),s)
  else
   let c:=pB cells (rI aA v)
   let r:=vK (vis cells aA k) c.arcs (s.1++[rI aA v],s.2++[⟨c.kind,[]⟩]) []
   ((s.1.length:Int),r.2.1,Eu r.2.2 s.1.length r.1)
structure Sn(N:Nat)(B:Nat)(s:List Int×List aN):Prop where
 nd:s.1.Nodup
 ing:∀v∈s.1,0<=v/\v<(N:Int)
 len:s.2.length=s.1.length
 sm:∀x∈s.2,x.Arcs.length<=B
variable{N:Nat}
theorem Sn.le{B:Nat}{s:List Int×List aN}(h:Sn N B s):s.1.length<=N:=kr N h.nd h.ing
theorem Sn.nil(N B:Nat):Sn N B ([],[]):=⟨List.nodup_nil,fun v hv=>(List.not_mem_nil hv).elim,rfl,fun v hv=>(List.not_mem_nil hv).elim⟩
theorem Sn.snoc{B:Nat}{s:List Int×List aN}(h:Sn N B s){v:Int}(hv:0<=v/\v<(N:Int))(hn:v ∉ s.1)(k:Int):Sn N B (s.1++[v],s.2++[⟨k,[]⟩]):=⟨by
 rw[List.nodup_append];refine⟨h.nd,by simp,?_⟩;intro a ha b hb;simp at hb;subst hb;intro e;subst e;exact hn ha,fun u hu=>by
 rcases yD.1 hu with hu |hu;exact h.ing u hu;simp at hu;subst hu;exact hv,by simp[h.len],fun x hx=>by
 rcases yD.1 hx with hx |hx;exact h.sm x hx;simp at hx;subst hx;simp⟩
theorem mO.cel{D:Nat}{FB TB:Int}{cells:List aS}{aA d:Nat->Nat}(h:mO N D FB TB cells aA d){v:Int}(hv:0<=v/\v<(N:Int)):cells[v.toNat]? = some (pB cells v):=by
 have h1:=h.len;have h2:v.toNat<cells.length:=by omega
 rw[pB,List.getElem?_eq_getElem h2];rfl
theorem mO.rI{N D:Nat}{FB TB:Int}{cells:List aS}{aA d:Nat->Nat}(h:mO N D FB TB cells aA d){v:Int}(hv:0<=v/\v<(N:Int)):0<=rI aA v/\rI aA v<(N:Int):=by
 have:=h.rok.lt v.toNat (by omega);unfold Go.Proofs.rI;omega
theorem qzp(g:List Int×List aN->Int->Int×List Int×List aN):∀(l:List aK)(s:List Int×List aN)(aX:List aK),(vK g l s aX).1.length=aX.length+l.length
 |[],s,aX=>rfl|a::l,s,aX=>by rw[vK,qzp g l];simp;omega
theorem cq{N D B:Nat}{FB TB:Int}{cells:List aS}{aA d:Nat->Nat}(h:mO N D FB TB cells aA d)(hB:tot cells<=B):∀(k:Nat)(s:List Int×List aN)(v:Int),Sn N B s->(0<=v/\v<(N:Int))->N-s.1.length<k->
  Sn N B (vis cells aA k s v).2/\s.1.length<=(vis cells aA k s v).2.1.length/\(0<(vis cells aA k s v).2.1.length)
 |0,s,v,hs,hv,hk=>by omega
 |k+1,s,v,hs,hv,hk=>by
  unfold vis;by_cases hm:rI aA v∈s.1;rw[if_pos hm];exact⟨hs,zF _,List.length_pos_of_mem hm⟩;rw[if_neg hm];have hr:=h.rI hv;have xZ:=hs.snoc hr hm (pB cells (rI aA v)).kind;have hc:=h.cel hr;have Wz:=h.ar _ _ hc;have G3:=xZ.le;simp only[zU,zO,zS]at G3;have key:∀(l:List aK),(∀a∈l,0<=a.To/\a.To<(N:Int))->∀(s':List Int×List aN)(aX:List aK),Sn N B s'->s.1.length+1<=s'.1.length->Sn N B (vK (vis cells aA k) l s' aX).2/\s.1.length+1<=(vK (vis cells aA k) l s' aX).2.1.length:=by
   intro l;induction l with
   |nil=>intro _ s' aX h1 h2;exact⟨h1,h2⟩|cons a l ih=>intro hl s' aX h1 h2;have ha:=hl a (by simp);obtain⟨g1,g2,g3⟩:=cq h hB k s' a.To h1 ha (by omega);exact ih (fun b hb=>hl b (List.mem_cons_of_mem _ hb)) _ _ g1 (by omega)
  obtain⟨g1,g2⟩:=key _ (fun a ha=>(Wz.ok a ha).2.2) _ [] xZ (by simp);refine⟨⟨g1.nd,g1.ing,?_,?_⟩,?_,?_⟩;show(Eu _ _ _).length=_;rw[Eu,List.length_set];exact g1.len;intro x hx;rcases List.mem_or_eq_of_mem_set hx with hx |hx;exact g1.sm x hx;subst hx;show(vK _ _ _ _).1.length<=B;rw[qzp];have:=Gd hc;simp;omega;show s.1.length<=(vK (vis cells aA k) _ _ _).2.1.length;omega;show 0<(vK (vis cells aA k) _ _ _).2.1.length;omega
end Go.Proofs
namespace Go.Proofs
open Go Go.Rx Go.Vx
set_option maxRecDepth 10000
theorem z3j{N D:Nat}{FB TB:Int}{cells:List aS}{aA d:Nat->Nat}(h:mO N D FB TB cells aA d):∀(k i:Nat),d i<k->i<N->Jl cells k (i:Int)=some (aA i:Int)
 |0,i,hk,_=>by omega
 |k+1,i,hk,hi=>by
  have hl:=h.len;obtain⟨c,hc,_⟩:=eM (l:=cells) (show i<cells.length by omega);simp only[Jl,cK,hc,aO];by_cases e:aA i=i;have:=h.cok.root i c hc e;simp[this,sn,e];obtain⟨j,h1,h2,h3,h4⟩:=h.cok.fwd i c hc e;have h5:decide (c.forward>=0)=true:=by simp[h1]
  rw[h5,zC,h1,z3j h k j (by omega) h2,h3]
theorem ff{N D:Nat}{FB TB:Int}{cells:List aS}{aA d:Nat->Nat}(h:mO N D FB TB cells aA d){n:Nat}(hn:D<n){v:Int}(hv:0<=v/\v<(N:Int))(p2:List dH)(p3:List dZ)(p6:List bD)(p8:List c9):
  Jd n v p2 p3 cells p6 p8=some (rI aA v):=by
 have h1:v.toNat<N:=by omega
 have h2:=h.rok.bd _ h1;have:=z3j h n v.toNat (by omega) h1;rw[show((v.toNat:Nat):Int)=v by omega]at this;exact this
theorem Aa{i j:Nat}(h:i+j<=1000000000):IntKind.i64.wrap ((IntKind.u64.wrap (IntKind.i64.wrap ((i:Int)+(j:Int)))).fdiv (2^(min (1:Int).toNat IntKind.u64.bits)))=(((i+j)/2:Nat):Int):=by
 have e1:IntKind.i64.wrap ((i:Int)+(j:Int))=((i+j:Nat):Int):=EA (by omega) (by omega);have e2:IntKind.u64.wrap ((i+j:Nat):Int)=((i+j:Nat):Int):=by unfold IntKind.wrap;simp only[IntKind.signed,IntKind.bits,Bool.false_and,Bool.false_eq_true,if_false];omega
 have e3:min (1:Int).toNat IntKind.u64.bits=1:=rfl;have e4:((i+j:Nat):Int).fdiv (2^1)=(((i+j)/2:Nat):Int):=by rw[show(2:Int)^1=((2:Nat):Int) by rfl,Int.fdiv_eq_ediv_of_nonneg _ (Int.natCast_nonneg _)];rfl
 rw[e1,e2,e3,e4];exact wr (by omega) (by omega)
theorem lU.lt{l:List aK}(h:lU l){i j:Nat}{x y:aK}(hi:l[i]? = some x)(hj:l[j]? = some y)(lS:i<j):x.Feat<y.Feat:=by
 obtain⟨h1,e1⟩:=zG.1 hi;obtain⟨h2,e2⟩:=zG.1 hj;have:=List.pairwise_iff_getElem.1 h i j h1 h2 lS;rw[e1,e2]at this;exact this
structure At(l:List aK)(f:Int)(k:Nat):Prop where
 le:k<=l.length
 lo:∀(i:Nat)(x:aK),l[i]? = some x->i<k->x.Feat<f
 hi:∀(i:Nat)(x:aK),l[i]? = some x->k<=i->f<=x.Feat
theorem z96(n:Nat){x:aK}{f:Int}(h1:0<=x.Feat/\x.Feat<1000000000)(h2:0<=f/\f<1000000000):Z0 n x f=some (x.Feat-f):=by
 rw[Z0,wr (by omega) (by omega)]
theorem Ec{N:Nat}{FB:Int}{l:List aK}(h:wN N FB l)(J:FB<=1000000000)(hl:l.length<=1000000){f:Int}(hf:0<=f/\f<FB)(n:Nat):∀(m i j:Nat),j-i<m->i<=j->j<=l.length->(∀(k:Nat)(x:aK),l[k]? = some x->k<i->x.Feat<f)->(∀(k:Nat)(x:aK),l[k]? = some x->j<=k->f<=x.Feat)->
  ∃(k:Nat)(b:Bool),TH l f (Z0 n) m (i:Int) (j:Int)=some ((k:Int),b)/\At l f k/\(b=true↔∃x,l[k]? = some x/\x.Feat=f)
 |0,i,j,hm,_,_,_,_=>by omega
 |m+1,i,j,hm,lS,hj,h1,h2=>by
  unfold TH;by_cases e:i<j;have e1:decide ((i:Int)<(j:Int))=true:=by simp;omega
  have Bo:=Aa (i:=i) (j:=j) (by omega);obtain⟨x,hx,gM⟩:=eM (l:=l) (show(i+j)/2<l.length by omega);have Ax:=h.ok x gM;have hc:=z96 n (x:=x) (f:=f) (by omega) (by omega);simp only[e1,zC,Bo,cK,hx,aO,hc];by_cases h3:x.Feat-f<0;have e2:IntKind.i64.wrap ((((i+j)/2:Nat):Int)+1)=(((i+j)/2+1:Nat):Int):=EA (by omega) (by omega);simp only[h3,yC,zC,Jt,e2];refine Ec h J hl hf n m ((i+j)/2+1) j (by omega) (by omega) hj (fun k y hy hk=>?_) h2;by_cases e3:k=(i+j)/2;subst e3;rw[hx]at hy;have:=Option.some.inj hy;subst this;omega;have:=h.up.lt hy hx (by omega);omega;simp only[h3,yB,zD,Jt];refine Ec h J hl hf n m i ((i+j)/2) (by omega) (by omega) (by omega) h1 (fun k y hy hk=>?_);by_cases e3:k=(i+j)/2;subst e3;rw[hx]at hy;have:=Option.some.inj hy;subst this;omega;have:=h.up.lt hx hy (by omega);omega;have e0:i=j:=by omega
  subst e0;have e1:decide ((i:Int)<(i:Int))=false:=by simp
  have oU:At l f i:=⟨hj,h1,h2⟩;simp only[e1,zD,pe];by_cases aE:i<l.length;obtain⟨x,hx,gM⟩:=eM aE;have Ax:=h.ok x gM;have hc:=z96 n (x:=x) (f:=f) (by omega) (by omega);simp only[hH aE,zC,cK,hx,aO,hc];refine⟨i,_,rfl,oU,?_⟩;rw[beq_iff_eq];constructor;intro q;exact⟨x,hx,by omega⟩;rintro⟨y,hy,q⟩;rw[hx]at hy;have:=Option.some.inj hy;subst this;omega;simp only[iF aE,zD,aO];refine⟨i,false,rfl,oU,by simp,?_⟩;rintro⟨y,hy,_⟩;exact absurd (zG.1 hy).1 aE
def pk(p:Int×Int):gY:=⟨p.1,p.2⟩
theorem fe{N:Nat}{FB:Int}{a b:List aK}(ha:wN N FB a)(hb:wN N FB b)(J:FB<=1000000000)(Q0:a.length<=20000)(hlb:b.length<=20000){n:Nat}(hn:60000<=n):∀(m k:Nat)(o:List aK),b.length-k<m->k<=b.length->rH a (b.take k) o->
  ∃o',ZG b n m (k:Int) ((prs a (b.take k)).map pk) o=some (o',(prs a b).map pk)/\rH a b o'
 |0,k,o,hm,_,_=>by omega
 |m+1,k,o,hm,hk,ho=>by
  unfold ZG;have y3:=ho.len;have Ko:(b.take k).length<=20000:=by rw[List.length_take];omega
  by_cases aE:k<b.length;obtain⟨y,hy,C1⟩:=eM aE;have hyo:=hb.ok y C1;have hoo:=ho.ok ha ⟨hb.up.sublist (List.take_sublist k b),fun x hx=>hb.ok x (List.mem_of_mem_take hx)⟩;obtain⟨i,bb,s1,s2,s3⟩:=Ec hoo J (by omega) (f:=y.Feat) ⟨hyo.1,hyo.2.1⟩ n n 0 o.length (by omega) (by omega) (zF _) (fun k x _ h=>by omega) (fun k x hx h=>by have:=(zG.1 hx).1;omega);rw[zV]at s1;simp only[hH aE,zC,cK,hy,aO,pd,s1];have ht:=j9 hy;cases bb with
  |true=>
   obtain⟨x,hx,e⟩:=s3.1 rfl;have gM:=zX hx;have hxa:x∈a:=by
    rcases yD.1 (ho.pm.mem_iff.1 gM)with h |h;exact h;exfalso;have h1:=(List.mem_filter.1 h).1;obtain⟨q,hq⟩:=List.mem_iff_getElem?.1 h1;have PY:q<k:=by have:=(zG.1 hq).1;rw[List.length_take]at this;omega
    rw[List.getElem?_take_of_lt PY]at hq;have:=hb.up.lt hq hy PY;omega
   have hp:=qpm (b:=b.take k) ha.up.dis hxa e;have nI:(prs a (b.take k)).length<=20000:=by have:=Gi a (b.take k);omega
   simp only[zC,hx,aO,iU aE (show b.length<=9223372036854775807 by omega)];rw[aF,if_pos (by simp only[yA];omega)];have jN:=ho.inn hxa e;rw[<-ht]at hp jN;have:=fe ha hb J Q0 hlb hn m (k+1) o (by omega) (by omega) jN;rw[hp,List.map_append]at this;exact this
  |false=>
   have eE:∀x,o[i]? = some x->x.Feat≠y.Feat:=fun x hx e=>by have:=s3.2 ⟨x,hx,e⟩;cases this
   have G1:∀z∈o.take i,z.Feat<y.Feat:=fun z hz=>by
    obtain⟨q,hq⟩:=List.mem_iff_getElem?.1 hz;have PY:q<i:=by have:=(zG.1 hq).1;rw[List.length_take]at this;omega
    rw[List.getElem?_take_of_lt PY]at hq;exact s2.lo q z hq PY
   have UK:∀z∈o.drop i,y.Feat<z.Feat:=fun z hz=>by
    obtain⟨q,hq⟩:=List.mem_iff_getElem?.1 hz;rw[List.getElem?_drop]at hq;have h1:=s2.hi (i+q) z hq (by omega);cases q with
    |zero=>have:=eE z hq;omega|succ q=>obtain⟨x,hx,_⟩:=eM (l:=o) (show i<o.length by have:=(zG.1 hq).1;omega);have h2:=hoo.up.lt hx hq (by omega);have h3:=s2.hi i x hx (zF _);omega
   have kI:=ho.out G1 UK;have hna:∀x∈a,x.Feat≠y.Feat:=fun x hx e=>by have Ax:x∈o:=ho.pm.mem_iff.2 (List.mem_append_left _ hx);rw[<-List.take_append_drop i o]at Ax;rcases yD.1 Ax with h |h;have:=G1 x h;omega;have:=UK x h;omega
   have hp:=qnk (b:=b.take k) hna;have hile:=s2.le;have B?:si n (i:Int) o y.Feat y.To=some (o.take i++y::o.drop i):=by rw[si,aF,if_pos (by omega),zZ]
   simp only[zD,B?,aO,iU aE (show b.length<=9223372036854775807 by omega)];rw[<-ht]at hp kI;have:=fe ha hb J Q0 hlb hn m (k+1) _ (by omega) (by omega) kI;rw[hp]at this;exact this
  have e:b.take k=b:=zW (by omega);rw[e]at ho ⊢;simp only[iF aE,zD,mw];exact⟨o,rfl,ho⟩
end Go.Proofs
namespace Go.Proofs
open Go Go.Rx Go.Vx Go.Shelf Go.Sort
set_option maxRecDepth 10000
abbrev Str:=List UInt8
theorem jK{O S R:Type}{l:List O}(hl:l.length<=9223372036854775807){F:Nat->Int->S->Option R}(I:Nat->S->Prop){Q:R->Prop}
  (h:∀(m i:Nat)(x:O)(s:S),l[i]? = some x->i<l.length->decide ((i:Int)<(l.length:Int))=true->IntKind.i64.wrap ((i:Int)+1)=((i+1:Nat):Int)->I i s->(∀s',I (i+1) s'->∃r,F m ((i+1:Nat):Int) s'=some r/\Q r)->∃r,F (m+1) (i:Int) s=some r/\Q r)
  (hK:∀(m:Nat)(s:S),decide ((l.length:Int)<(l.length:Int))=false->I l.length s->∃r,F (m+1) (l.length:Int) s=some r/\Q r):
  ∀(m i:Nat)(s:S),l.length-i<m->i<=l.length->I i s->∃r,F m (i:Int) s=some r/\Q r
 |0,i,s,hm,_,_=>by omega
 |m+1,i,s,hm,hi,hs=>by
  by_cases aE:i<l.length;obtain⟨x,hx,_⟩:=eM aE;exact h m i x s hx aE (hH aE) (iU aE hl) hs fun s' C5=>jK hl I h hK m (i+1) s' (by omega) (by omega) C5;have:i=l.length:=by omega
  subst this;exact hK m s (iF (by omega)) hs
theorem fG{β:Type}{p:Prop}[Decidable p]{k:Option β}(h:p):aF p k=k:=if_pos h
theorem beqF{a b:Str}(h:a≠b):lG a b=false:=by
 rcases e:lG a b with _|_;rfl;exact absurd ((om _ _).1 e) h
theorem LA(a b:Str):lG a b=decide (a=b):=by
 by_cases h:a=b;rw[(om _ _).2 h];simp[h];rw[beqF h];simp[h]
variable{O:Type}
variable{l:List O}
theorem z97{a b:Nat}(h1:a<=b)(h2:b<=l.length):sQ l (a:Int) (b:Int)=some ((l.drop a).take (b-a)):=by
 unfold sQ;have:0<=(a:Int)/\(a:Int)<=(b:Int)/\(b:Int)<=(l.length:Int):=by omega
 simp[this,List.drop_take]
theorem qw{b:Nat}(h2:b<=l.length):sQ l 0 (b:Int)=some (l.take b):=by
 have:=z97 (l:=l) (Nat.zero_le b) h2
 rwa [zV,List.drop_zero,Nat.sub_zero]at this
theorem Zl{a:Nat}(h2:a<=l.length):sQ l (a:Int) (l.length:Int)=some (l.drop a):=by
 have:=z97 (l:=l) h2 (zF _)
 rwa [zW (by simp)]at this
theorem zbh(n:Nat)(z:Int)(b:Bool):∃r,Qc n z b=some r:=by
 simp only[Qc,YS,kp,Qt];cases decide (z>=48)<;>cases decide (z<=57)<;>cases (z==45)<;>cases b<;>cases decide (z>=65)<;>cases decide (z<=90)<;>cases decide (z>=97)<;>cases decide (z<=122)<;>exact⟨_,rfl⟩
variable{s:Str}
theorem qzh{i:Nat}{x:UInt8}(h:s[i]? = some x):XN s (i:Int)=some (x.toNat:Int):=by
 have:=(zG.1 h).1;have h2:0<=(i:Int)/\(i:Int)<(s.length:Int):=by omega
 simp[XN,h2,h]
variable{n:Nat}
theorem qyp(s:Str)(b:Bool)(hn:40<=n):∃r,Hn n s b=some r/\(r=true->0<s.length/\s.length<=32):=by
 unfold Hn;by_cases h1:(s.length:Int)<1;simp only[h1,yC,zC,aO];exact⟨false,rfl,fun h=>by cases h⟩;by_cases h2:(s.length:Int)>32;simp only[h1,h2,yC,yB,zC,zD,aO];exact⟨false,rfl,fun h=>by cases h⟩;obtain⟨x,hx,_⟩:=eM (show 0<s.length by omega);have h3:=qzh hx;rw[zV]at h3;have hd:∃r,YS n (x.toNat:Int)=some r:=by unfold YS;cases decide ((x.toNat:Int)>=48)<;>exact⟨_,rfl⟩
 obtain⟨c,hc⟩:=hd;have key:=jK (l:=s) (by omega) (F:=fun m z (_:Unit)=>ZE s b n m z) (fun _ _=>True) (Q:=fun r=>True)
  (fun m i x _ hx aE hd hw _ ih=>by obtain⟨r,hr⟩:=zbh n (x.toNat:Int) b;obtain⟨q,hq,_⟩:=ih () trivial;simp only[ZE,hd,zC,qzh hx,aO,hr,hw];rcases r with _|_;exact⟨_,rfl,trivial⟩;exact⟨q,hq,trivial⟩)
  (fun m _ hd _=>by simp only[ZE,hd,zD,mn];exact⟨_,rfl,trivial⟩) n 0 () (by omega) (by omega) trivial
 obtain⟨q,hq,_⟩:=key;rw[zV]at hq;simp only[h1,h2,yB,zD,h3,aO,hc];cases c with
 |true=>simp only[zC,aO];exact⟨false,rfl,fun h=>by cases h⟩|false=>simp only[zD,aO];rcases((x.toNat:Int)==45)with _|_;exact⟨q,hq,fun _=>by omega⟩;exact⟨false,rfl,fun h=>by cases h⟩
theorem z9c{d:List bL}(hd:d.length<=1000000){s:Str}:∀(m i:Nat),d.length-i<m->i<=d.length->
  (∃j x,i<=j/\d[j]? = some x/\x.Name=s/\(∀k y,i<=k->k<j->d[k]? = some y->y.Name≠s)/\YY d s m i=some (j:Int))\/((∀x∈d.drop i,x.Name≠s)/\YY d s m i=some (-1))
 |0,i,hm,_=>by omega
 |m+1,i,hm,hi=>by unfold YY;by_cases aE:i<d.length;obtain⟨x,hx,_⟩:=eM aE;simp only[hH aE,zC,cK,hx,aO,iU aE (show d.length<=9223372036854775807 by omega),LA];by_cases hb:x.Name=s;simp only[hb,yC,zC];exact .inl ⟨i,x,zF _,hx,hb,fun k y h1 h2=>by omega,rfl⟩;simp only[hb,yB,zD];rcases z9c hd (s:=s) m (i+1) (by omega) (by omega)with⟨j,y,h1,h2,h3,h4,h5⟩|⟨h1,h2⟩;refine .inl ⟨j,y,by omega,h2,h3,fun k z Bt DM hz=>?_,h5⟩;by_cases e:k=i;subst e;rw[hx]at hz;cases hz;exact hb;exact h4 k z (by omega) DM hz;refine .inr ⟨fun y hy=>?_,h2⟩;rw[aW hx]at hy;rcases zI.1 hy with rfl |hy;exact hb;exact h1 y hy;simp only[iF aE,zD,yi,bT aE];exact .inr ⟨fun x hx=>(List.not_mem_nil hx).elim,by simp⟩
variable{d:List bL}
theorem OO(hd:d.length<=1000000)(s:Str)(hn:d.length<n):
  (∃(j:Nat)(x:bL),d[j]? = some x/\x.Name=s/\(∀k y,k<j->d[k]? = some y->y.Name≠s)/\JA n d s=some (j:Int))\/((∀x∈d,x.Name≠s)/\JA n d s=some (-1)):=by
 rcases z9c hd (s:=s) n 0 (by omega) (by omega)with⟨j,y,_,h2,h3,h4,h5⟩|⟨h1,h2⟩;exact .inl ⟨j,y,h2,h3,fun k z hk hz=>h4 k z (by omega) hk hz,h5⟩;exact .inr ⟨by rw[List.drop_zero]at h1;exact h1,h2⟩
theorem z1o{l:List Str}(hl:l.length<=1000000){s:Str}:∀(m i:Nat),l.length-i<m->i<=l.length->Io l s m i=some (decide (s∈l.drop i))
 |0,i,hm,_=>by omega
 |m+1,i,hm,hi=>by unfold Io;by_cases aE:i<l.length;obtain⟨x,hx,_⟩:=eM aE;simp only[hH aE,zC,cK,hx,aO,aW hx,zI,iU aE (show l.length<=9223372036854775807 by omega),LA];by_cases e:x=s;simp[e];have e':¬ s=x:=fun h=>e h.symm;simp only[e,e',yB,zD,false_or];exact z1o hl m (i+1) (by omega) (by omega);simp only[iF aE,zD,me,bT aE,List.not_mem_nil,yB]
variable{l:List Str}
theorem OT(hl:l.length<=1000000)(s:Str)(hn:l.length<n):HE n l s=some (decide (s∈l)):=by
 have:=z1o hl (s:=s) n 0 (by omega) (by omega);rw[zV,List.drop_zero]at this;exact this
def fO(l:List Str):Prop:=l.Pairwise fun a b=>kN a b=true
theorem fO.nodup(h:fO l):l.Nodup:=h.imp fun{a b} h e=>by subst e;rw[qji]at h;cases h
theorem z9x(hl:l.length<=1000000)(ha:fO l){j:Nat}(hj:j<=l.length)(hb:∀x∈l.take j,kN x s=true)(hx:∀x,l[j]? = some x->kN x s=false):∃out,Re l s j=some out/\(∀x,x∈out↔x=s\/x∈l)/\out.length<=l.length+1/\fO out:=by
 unfold Re;have tl:(l.take j).length=j:=by simp;omega
 have dl:(l.drop j).length=l.length-j:=by simp
 have ins:(∀x∈l.drop j,kN s x=true)->∃out,(a8 (sQ l 0 (j:Int)) fun gH=>
  aF (gH.length*16<=140737488355328/\gH.length<=140737488355328) (
  aF ((gH.length+1)*16<=140737488355328/\gH.length+1<=140737488355328) (
  a8 (sQ l (j:Int) (l.length:Int)) fun eD=>
  aF (((gH++[s]).length+eD.length)*16<=140737488355328/\(gH++[s]).length+eD.length<=140737488355328) (
  some ((gH++[s])++eD)))))=some out/\(∀x,x∈out↔x=s\/x∈l)/\out.length<=l.length+1/\fO out:=by
  intro hd;refine⟨(l.take j++[s])++l.drop j,?_,fun x=>?_,by simp;omega,?_⟩;rw[qw hj,aO,fG (by rw[tl];omega),fG (by rw[tl];omega),Zl hj,aO,fG (by rw[zU,tl,dl];simp;omega)];have:=List.take_append_drop j l;constructor;intro h;simp only[yD,List.mem_singleton]at h;rcases h with(h |h)|h;exact .inr (List.mem_of_mem_take h);exact .inl h;exact .inr (List.mem_of_mem_drop h);rintro(h |h);simp[h];rw[<-this]at h;simp only[yD]at h ⊢;rcases h with h |h;exact .inl (.inl h);exact .inr h;unfold fO at*;rw[<-List.take_append_drop j l,List.pairwise_append]at ha;rw[List.pairwise_append,List.pairwise_append];refine⟨⟨ha.1,by simp,fun a h1 b h2=>by simp at h2;subst h2;exact hb a h1⟩,ha.2.1,fun a h1 b h2=>?_⟩;rcases yD.1 h1 with h1 |h1;exact ha.2.2 a h1 b h2;simp at h1;subst h1;exact hd b h2
 by_cases aE:j<l.length;obtain⟨x,pw,gM⟩:=eM aE;have h1:=hx x pw;simp only[hH aE,zC,cK,pw,aO,LA];by_cases e:x=s;subst e;simp only[yC,zC];exact⟨l,rfl,fun y=>⟨fun h=>.inr h,fun h=>h.elim (fun h=>h ▸ gM) id⟩,by omega,ha⟩;simp only[e,yB,zD];have h2:kN s x=true:=by rcases h3:kN s x with _|_;exact absurd (qkq x s h1 h3) e;rfl
 refine ins fun y hy=>?_;rw[aW pw]at hy;rcases zI.1 hy with rfl |hy
 exact h2;have:l=l.take (j+1)++l.drop (j+1):=(List.take_append_drop _ _).symm;unfold fO at ha;rw[this,List.pairwise_append]at ha;exact qkr _ _ _ h2 (ha.2.2 x (by rw[j9 pw];simp) y hy);simp only[iF aE,zD,aO];exact ins fun y hy=>by rw[bT aE]at hy;cases hy
theorem TJ{l:List Str}(hl:l.length<=1000000)(ha:fO l){s:Str}:∀(m i:Nat),l.length-i<m->i<=l.length->(∀x∈l.take i,kN x s=true)->∃out,Hv l s m i=some out/\(∀x,x∈out↔x=s\/x∈l)/\out.length<=l.length+1/\fO out
 |0,i,hm,_,_=>by omega
 |m+1,i,hm,hi,hb=>by
  unfold Hv;by_cases aE:i<l.length;obtain⟨x,hx,_⟩:=eM aE;simp only[hH aE,zC,cK,hx,aO,iU aE (show l.length<=9223372036854775807 by omega)];cases Ce:kN x s with
  |true=>
   simp only[zC];refine TJ hl ha m (i+1) (by omega) (by omega) fun y hy=>?_;rw[j9 hx]at hy;rcases yD.1 hy with hy |hy
   exact hb y hy;simp at hy;subst hy;exact Ce
  |false=>simp only[zD];exact z9x hl ha hi hb fun y hy=>by rw[hx]at hy;cases hy;exact Ce
  simp only[iF aE,zD,aO];exact z9x hl ha hi hb fun y hy=>by have:=(zG.1 hy).1;omega
theorem Fp(hl:l.length<=1000000)(ha:fO l)(s:Str)(hn:l.length<n):∃out,OV n l s=some out/\(∀x,x∈out↔x=s\/x∈l)/\out.length<=l.length+1/\fO out:=by
 have:=TJ hl ha (s:=s) n 0 (by omega) (by omega) (by simp);rw[zV]at this;exact this
structure yL(l0 l:List Str)(out:List Str):Prop where
 mem:∀x,x∈out↔x∈l0\/x∈l
 len:out.length<=l0.length+l.length
 asc:fO out
theorem yL.next{l0 out pI:List Str}(h:yL l0 l out)(h1:∀x,x∈pI↔x=s\/x∈out)(h2:pI.length<=out.length+1)(h3:fO pI):yL l0 (l++[s]) pI:=by
 refine⟨fun x=>?_,by have:=h.len;simp;omega,h3⟩;rw[h1,h.mem];simp only[yD,List.mem_singleton];constructor;rintro(h |h |h);exact .inr (.inr h);exact .inl h;exact .inr (.inl h);rintro(h |h |h);exact .inr (.inl h);exact .inr (.inr h);exact .inl h
theorem yL.nil(h:fO l):yL l [] l:=⟨fun x=>by simp,by simp,h⟩
theorem names_ok(hd:d.length<=1000)(hn:5000<=n):∃out,Qo n d=some out/\yL [] (d.map bL.Name) out:=by
 have:=jK (l:=d) (by omega) (F:=fun m z s=>ZD d n m s z) (fun i s=>yL [] ((d.take i).map bL.Name) s) (Q:=fun out=>yL [] (d.map bL.Name) out)
  (fun m i x s hx aE bG hw hI ih=>by have hl:=hI.len;simp at hl;obtain⟨o,h1,h2,h3,h4⟩:=Fp (l:=s) (by omega) hI.asc x.Name (show s.length<n by omega);simp only[ZD,bG,zC,cK,hx,aO,h1,hw];exact ih o (by rw[j9 hx,List.map_append];exact hI.next h2 h3 h4))
  (fun m s bG hI=>by simp only[ZD,bG,zD,lx];rw[zW (zF _)]at hI;exact⟨s,rfl,hI⟩) n 0 [] (by omega) (by omega) (yL.nil List.Pairwise.nil)
 rw[zV]at this;exact this
theorem z8h(hd:d.length<=12)(hn:5000<=n):∃e,Qn n d=some e/\(e=0->∀x∈d,x.Supers.length<=256/\x.Feats.length<=256):=by
 have:=jK (l:=d) (by omega) (F:=fun m z (_:Unit)=>ZA d m z) (fun i _=>∀x∈d.take i,x.Supers.length<=256/\x.Feats.length<=256) (Q:=fun e=>e=0->∀x∈d,x.Supers.length<=256/\x.Feats.length<=256)
  (fun m i x _ hx aE bG hw hI ih=>by
   simp only[ZA,bG,zC,cK,hx,aO,hw];by_cases h1:(x.Supers.length:Int)>256;simp only[h1,yC,zC,aO];exact⟨7,rfl,fun h=>by cases h⟩;by_cases h2:(x.Feats.length:Int)>256;simp only[h1,h2,yC,yB,zC,zD,aO];exact⟨7,rfl,fun h=>by cases h⟩;simp only[h1,h2,yB,zD,aO];refine ih () fun y hy=>?_;rw[j9 hx]at hy;rcases yD.1 hy with hy |hy
   exact hI y hy;simp at hy;subst hy;omega)
  (fun m _ bG hI=>by simp only[ZA,bG,zD,lj];rw[zW (zF _)]at hI;exact⟨0,rfl,fun _=>hI⟩) n 0 () (by omega) (by omega) (by simp)
 rw[zV]at this;have h:¬ (d.length:Int)>256:=by omega
 simp only[Qn,h,yB,zD];exact this
theorem zbc(s:Str)(hn:40<=n):∃r,Qd n s=some r/\(r=true->0<s.length/\s.length<=32):=by
 obtain⟨r,h1,h2⟩:=qyp s false hn;exact⟨r,by simp[Qd,h1,aO],h2⟩
structure Nx(d:List bL):Prop where
 nod:(d.map bL.Name).Nodup
 len:∀x∈d,0<x.Name.length/\x.Name.length<=32
theorem z2k(hd:d.length<=12)(hn:5000<=n):∃e,kl n d=some e/\(e=0->Nx d):=by
 have:=jK (l:=d) (by omega) (F:=fun m z (_:Unit)=>ZC d n m z) (fun i _=>Nx (d.take i)) (Q:=fun e=>e=0->Nx d)
  (fun m i x _ hx aE bG hw hI ih=>by obtain⟨r,h1,h2⟩:=zbc x.Name (show 40<=n by omega);simp only[ZC,bG,zC,cK,hx,aO,hw,h1];rcases r with _|_;exact⟨1,rfl,fun h=>by cases h⟩;simp only[Bool.not_true,zD];rcases OO (d:=d) (by omega) x.Name (show d.length<n by omega)with⟨j,y,g1,g2,g3,g4⟩|⟨g1,g2⟩;simp only[g4,aO];by_cases hj:(j:Int)<(i:Int);simp only[hj,yC,zC];exact⟨4,rfl,fun h=>by cases h⟩;simp only[hj,yB,zD];refine ih () ?_;rw[j9 hx];refine⟨?_,fun z hz=>?_⟩;rw[List.map_append,List.nodup_append];refine⟨hI.nod,by simp,fun a ha b hb e=>?_⟩;simp at hb;subst hb;obtain⟨z,hz,e2⟩:=List.mem_map.1 ha;obtain⟨k,hk,e3⟩:=List.mem_iff_getElem.1 hz;rw[List.length_take]at hk;rw[List.getElem_take]at e3;exact g3 k z (by omega) (by rw[List.getElem?_eq_getElem (by omega),e3]) (e2.trans e);rcases yD.1 hz with hz |hz;exact hI.len z hz;simp at hz;subst hz;exact h2 rfl;exact absurd rfl (g1 x (zX hx)))
  (fun m _ bG hI=>by simp only[ZC,bG,zD,lu];rw[zW (zF _)]at hI;exact⟨0,rfl,fun _=>hI⟩) n 0 () (by omega) (by omega) ⟨by simp,by simp⟩
 rw[zV]at this;exact this
def lB(d:List bL)(s:Str):Prop:=∃x∈d,x.Name=s
theorem fk(hd:d.length<=1000000)(h:lB d s)(hn:d.length<n):∃(j:Nat)(x:bL),d[j]? = some x/\x.Name=s/\JA n d s=some (j:Int):=by
 rcases OO hd s hn with⟨j,x,h1,h2,_,h4⟩|⟨h1,_⟩;exact⟨j,x,h1,h2,h4⟩;obtain⟨x,hx,e⟩:=h;exact absurd e (h1 x hx)
def LD(d:List bL)(x:bL):Prop:=(∀s∈x.Supers,lB d s)/\x.Supers.Nodup
theorem z5x(hd:d.length<=12)(hs:∀x∈d,x.Supers.length<=256)(hn:5000<=n):∃e,vf n d=some e/\(e=0->∀x∈d,LD d x):=by
 have:=jK (l:=d) (by omega) (F:=fun m z (_:Unit)=>MT d n m z) (fun i _=>∀x∈d.take i,LD d x) (Q:=fun e=>e=0->∀x∈d,LD d x)
  (fun m i x _ hx aE bG hw hI ih=>by
   have gM:=zX hx;have hxs:=hs x gM;simp only[MT,bG,zC,cK,hx,aO];have:=jK (l:=x.Supers) (by omega) (F:=fun m' z (_:Unit)=>ZI d n i (MT d n m) x m' z) (fun k _=>(∀s∈x.Supers.take k,lB d s)/\(x.Supers.take k).Nodup) (Q:=fun e=>e=0->∀x∈d,LD d x)
    (fun m' k s _ hsx tG dK xY jO kY=>by
     simp only[ZI,dK,zC,cK,hsx,aO,xY];rcases OO (d:=d) (by omega) s (show d.length<n by omega)with⟨j,y,g1,g2,g3,g4⟩|⟨g1,g2⟩;have hj:¬ (j:Int)<0:=by omega
     have eS:=OT (l:=x.Supers.take k) (by simp;omega) s (n:=n) (by simp;omega);simp only[g4,aO,hj,yB,zD,qw (show k<=x.Supers.length by omega),eS];by_cases hm:s∈x.Supers.take k;simp only[hm,yC,zC];exact⟨4,rfl,fun h=>by cases h⟩;simp only[hm,yB,zD];refine kY () ?_;rw[j9 hsx];refine⟨fun t ht=>?_,?_⟩;rcases yD.1 ht with ht |ht;exact jO.1 t ht;simp at ht;subst ht;exact⟨y,zX g1,g2⟩;rw[List.nodup_append];exact⟨jO.2,by simp,fun a ha b hb e=>by simp at hb;subst hb;subst e;exact hm ha⟩;simp only[g2,aO];exact⟨5,rfl,fun h=>by cases h⟩)
    (fun m' _ dK jO=>by
     simp only[ZI,dK,zD,uh,hw];rw[zW (zF _)]at jO;refine ih () fun y hy=>?_;rw[j9 hx]at hy;rcases yD.1 hy with hy |hy
     exact hI y hy;simp at hy;subst hy;exact jO) n 0 () (by omega) (by omega) ⟨by simp,by simp⟩
   rw[zV]at this;exact this)
  (fun m _ bG hI=>by simp only[MT,bG,zD,ui];rw[zW (zF _)]at hI;exact⟨0,rfl,fun _=>hI⟩) n 0 () (by omega) (by omega) (by simp)
 rw[zV]at this;exact this
theorem z8a{x:bL}(hs:x.Supers.length<=256)(hl:l.length<=1000)(hn:5000<=n):kj n x l=some (decide (∀s∈x.Supers,s∈l)):=by
 have:=jK (l:=x.Supers) (by omega) (F:=fun m z (_:Unit)=>ZB x l n m z) (fun i _=>∀s∈x.Supers.take i,s∈l) (Q:=fun b=>b=decide (∀s∈x.Supers,s∈l))
  (fun m i s _ hx aE bG hw hI ih=>by
   simp only[ZB,bG,zC,cK,hx,aO,hw,OT (l:=l) (by omega) s (n:=n) (by omega)];by_cases hm:s∈l;simp only[hm,yC,Bool.not_true,zD];refine ih () fun t ht=>?_;rw[j9 hx]at ht;rcases yD.1 ht with ht |ht
   exact hI t ht;simp at ht;subst ht;exact hm;simp only[hm,yB,Bool.not_false,zC];exact⟨false,rfl,(decide_eq_false fun h=>hm (h s (zX hx))).symm⟩)
  (fun m _ bG hI=>by simp only[ZB,bG,zD,ll];rw[zW (zF _)]at hI;exact⟨true,rfl,(decide_eq_true hI).symm⟩) n 0 () (by omega) (by omega) (by simp)
 rw[zV]at this;obtain⟨r,h1,h2⟩:=this;rw[<-h2];exact h1
inductive Ord(d:List bL):List Str->Prop
 |nil:Ord d []
 |snoc {l:List Str} {x:bL}:Ord d l->x∈d->x.Name ∉ l->(∀s∈x.Supers,s∈l)->Ord d (l++[x.Name])
theorem Ord.nodup(h:Ord d l):l.Nodup/\∀s∈l,lB d s:=by
 induction h with|nil=>simp| @snoc l x h1 h2 h3 h4 ih=>refine⟨?_,fun s hs=>?_⟩;rw[List.nodup_append];exact⟨ih.1,by simp,fun a ha b hb e=>by simp at hb;subst hb;subst e;exact h3 ha⟩;rcases yD.1 hs with hs |hs;exact ih.2 s hs;simp at hs;subst hs;exact⟨x,h2,rfl⟩
theorem Pi:∀{a b:List Str},a.Nodup->(∀x∈a,x∈b)->a.length<=b.length
 |[],b,_,_=>by simp
 |x::a,b,hn,hs=>by
  obtain⟨h1,h2⟩:=List.nodup_cons.1 hn;have h3:=Pi (b:=b.erase x) h2 fun y hy=>by have:y≠x:=fun e=>h1 (e ▸ hy);exact(List.mem_erase_of_ne this).2 (hs y (List.mem_cons_of_mem x hy))
  have h4:=List.length_erase_of_mem (hs x (by simp));have h5:=List.length_pos_of_mem (hs x (by simp));simp only[zO];omega
theorem Ord.len(h:Ord d l):l.length<=d.length:=by
 have:=Pi (b:=d.map bL.Name) h.nodup.1 fun s hs=>by obtain⟨x,hx,rfl⟩:=h.nodup.2 s hs;exact List.mem_map_of_mem hx
 rwa [yA]at this
theorem z4s(hd:d.length<=12)(hs:∀x∈d,x.Supers.length<=256)(hn:5000<=n):∃l,vg n d=some l/\Ord d l:=by
 have key:∀(m:Nat)(b:Bool)(l:List Str),d.length-l.length+2<=m+(cond b 0 1)->Ord d l->∃r,JD d n m b l=some r/\Ord d r:=by
  intro m;induction m with
  |zero=>intro b l hm;cases b<;>simp at hm<;>omega|succ m ih=>
   intro b l hm hl;have G2:=hl.len;unfold JD;rcases b with _|_;simp only[zD,uk];exact⟨l,rfl,hl⟩;simp only[zC]at hm ⊢;have:=jK (l:=d) (by omega) (F:=fun m' z (s:Bool×Str)=>MU d n l (JD d n m) m' s.1 s.2 z) (fun i s=>s.1=true->∃x∈d,x.Name=s.2/\x.Name ∉ l/\∀t∈x.Supers,t∈l) (Q:=fun r=>Ord d r)
    (fun m' i x s hx aE bG hw hI kY=>by
     have gM:=zX hx;simp only[MU,bG,zC,cK,hx,aO,hw,OT (l:=l) (by omega) x.Name (n:=n) (by omega),z8a (hs x gM) (show l.length<=1000 by omega) hn];by_cases h1:x.Name∈l;simp only[h1,yC,zC,aO];exact kY (s.1,s.2) hI;by_cases h2:∀t∈x.Supers,t∈l;have e1:decide (∀t∈x.Supers,t∈l)=true:=decide_eq_true h2;simp only[h1,e1,yB,zD,Bool.not_true,aO,Sq,hw];have i7:∃y∈d,y.Name=x.Name/\y.Name ∉ l/\∀t∈y.Supers,t∈l:=⟨x,gM,rfl,h1,h2⟩;cases hb:s.1 with
     |false=>simp only[Bool.not_false,zC,aO];exact kY (true,x.Name) fun _=>i7
     |true=>
      simp only[Bool.not_true,zD,aO];cases kN x.Name s.2 with
      |true=>simp only[zC];exact kY (true,x.Name) fun _=>i7
      |false=>simp only[zD];exact kY (true,s.2) fun _=>hI hb
     have e1:decide (∀t∈x.Supers,t∈l)=false:=decide_eq_false h2;simp only[h1,e1,yB,zD,Bool.not_false,aO,zC];exact kY (s.1,s.2) hI)
    (fun m' s bG hI=>by
     simp only[MU,bG,zD,uj,Sr];rcases hb:s.1 with _|_;simp only[zD];exact ih false l (by simp;omega) hl;obtain⟨x,hx,e,h1,h2⟩:=hI hb;have hl2:Ord d (l++[s.2]):=by rw[<-e];exact .snoc hl hx h1 h2
     have:=hl2.len;simp only[zU,zO,zS]at this;simp only[zC];rw[fG (by omega)];exact ih true (l++[s.2]) (by simp;omega) hl2) n 0 (false,[]) (by omega) (by omega) (fun h=>by cases h)
   rw[zV]at this;exact this
 exact key n true [] (by simp;omega) .nil
structure AF(d:List bL):Prop where
 len:d.length<=12
 siz:∀x∈d,x.Supers.length<=256/\x.Feats.length<=256
 nam:Nx d
 sup:∀x∈d,LD d x
 ord:∃l,Ord d l/\l.length=d.length
 one:(d.filter fun x=>decide (x.Supers=[])).length=1
theorem z2f(hd:d.length<=12)(hn:5000<=n):∃e,Qp n d=some e/\(e=0->AF d):=by
 obtain⟨e1,a1,a2⟩:=z8h hd hn;simp only[Qp,a1,aO];by_cases h1:e1=0;subst h1;have a3:=a2 rfl;obtain⟨e2,b1,b2⟩:=z2k hd hn;simp only[bne_self_eq_false,zD,b1,aO];by_cases h2:e2=0;subst h2;obtain⟨e3,c1,c2⟩:=z5x hd (fun x hx=>(a3 x hx).1) hn;simp only[bne_self_eq_false,zD,c1,aO];by_cases h3:e3=0;subst h3;simp only[bne_self_eq_false,zD];have:=jK (l:=d) (by omega) (F:=fun m z (s:Int)=>PH d n m s z) (fun i s=>s=(((d.take i).filter fun x=>decide (x.Supers=[])).length:Int)) (Q:=fun e=>e=0->AF d)
  (fun m i x s hx aE bG hw hI ih=>by
   have A3:=List.length_filter_le (fun x:bL=>decide (x.Supers=[])) (d.take i);rw[List.length_take]at A3;simp only[PH,bG,zC,cK,hx,aO,Se,hw];by_cases hz:x.Supers=[];have e0:((x.Supers.length:Int)==0)=true:=by simp[hz]
   have e1:IntKind.i64.wrap (s+1)=s+1:=wr (by omega) (by omega);simp only[e0,zC,e1];refine ih (s+1) ?_;rw[j9 hx,List.filter_append,zU,hI];simp[hz];have e0:((x.Supers.length:Int)==0)=false:=by simp[List.length_eq_zero_iff,hz]
   simp only[e0,zD];refine ih s ?_;rw[j9 hx,List.filter_append,zU,hI];simp[hz])
  (fun m s bG hI=>by
   rw[zW (zF _)]at hI;simp only[PH,bG,zD,ly];by_cases h4:s=1;obtain⟨l,g1,g2⟩:=z4s hd (fun x hx=>(a3 x hx).1) hn;have hl:=g2.len;simp only[h4,bne_self_eq_false,zD,g1,aO];by_cases h5:(l.length:Int)<(d.length:Int);simp only[h5,yC,zC];exact⟨6,rfl,fun h=>by cases h⟩;simp only[h5,yB,zD];exact⟨0,rfl,fun _=>⟨hd,a3,b2 rfl,c2 rfl,⟨l,g2,by omega⟩,by omega⟩⟩;have e4:(s != 1)=true:=by simpa using h4
   simp only[e4,zC];exact⟨1,rfl,fun h=>by cases h⟩) n 0 0 (by omega) (by omega) (by simp)
 rw[zV]at this;exact this;have e4:(e3 != 0)=true:=by simpa using h3
 simp only[e4,zC];exact⟨e3,rfl,fun h=>absurd h h3⟩;have e4:(e2 != 0)=true:=by simpa using h2
 simp only[e4,zC];exact⟨e2,rfl,fun h=>absurd h h2⟩;have e4:(e1 != 0)=true:=by simpa using h1
 simp only[e4,zC];exact⟨e1,rfl,fun h=>absurd h h1⟩
variable{a:Nat}
theorem wu(h:a<18446744073709551616):IntKind.u64.wrap (a:Int)=(a:Int):=by
 simp only[IntKind.wrap,IntKind.bits,IntKind.signed];simp;omega
variable{b:Nat}
theorem QV(ha:a<18446744073709551616)(hb:b<18446744073709551616):GP .u64 (a:Int) (b:Int)=((a&&&b:Nat):Int):=by
 have h:(BitVec.ofInt 64 (a:Int)&&&BitVec.ofInt 64 (b:Int)).toNat=a&&&b:=by simp only[BitVec.ofInt_natCast,BitVec.toNat_and,BitVec.toNat_ofNat];rw[Nat.mod_eq_of_lt ha,Nat.mod_eq_of_lt hb]
 show IntKind.u64.wrap (((BitVec.ofInt 64 (a:Int)&&&BitVec.ofInt 64 (b:Int)).toNat:Nat):Int)=_;rw[h];exact wu (Nat.lt_of_le_of_lt Nat.and_le_left ha)
theorem orN(ha:a<18446744073709551616)(hb:b<18446744073709551616):Ju .u64 (a:Int) (b:Int)=((a|||b:Nat):Int):=by
 have h:(BitVec.ofInt 64 (a:Int)|||BitVec.ofInt 64 (b:Int)).toNat=a|||b:=by simp only[BitVec.ofInt_natCast,BitVec.toNat_or,BitVec.toNat_ofNat];rw[Nat.mod_eq_of_lt ha,Nat.mod_eq_of_lt hb]
 show IntKind.u64.wrap (((BitVec.ofInt 64 (a:Int)|||BitVec.ofInt 64 (b:Int)).toNat:Nat):Int)=_;rw[h];exact wu (Nat.or_lt_two_pow (n:=64) ha hb)
theorem Tx(ha:a<18446744073709551616)(hb:b<18446744073709551616):∃c:Nat,SF .u64 (a:Int) (b:Int)=(c:Int)/\(c=0↔a&&&b=a):=by
 refine⟨(BitVec.ofInt 64 (a:Int) &&& ~~~ BitVec.ofInt 64 (b:Int)).toNat,?_,?_⟩;exact wu (BitVec.isLt _);have h1:(BitVec.ofInt 64 (a:Int)&&&BitVec.ofInt 64 (b:Int)).toNat=a&&&b:=by simp only[BitVec.ofInt_natCast,BitVec.toNat_and,BitVec.toNat_ofNat];rw[Nat.mod_eq_of_lt ha,Nat.mod_eq_of_lt hb]
 have h2:(BitVec.ofInt 64 (a:Int)).toNat=a:=by simp only[BitVec.ofInt_natCast,BitVec.toNat_ofNat];exact Nat.mod_eq_of_lt ha
 generalize BitVec.ofInt 64 (a:Int)=x at*;generalize BitVec.ofInt 64 (b:Int)=y at*;rw[<-h1];constructor;intro h;have h3:x &&& ~~~ y=0#64:=BitVec.eq_of_toNat_eq (by simpa using h);have:x&&&y=x:=by ext i hi;have:=congrArg (fun z=>z.getLsbD i) h3;simp[hi]at this ⊢;intro hx;exact this hx
 rw[this,h2];intro h;have h3:x&&&y=x:=BitVec.eq_of_toNat_eq (by rw[h,h2]);have:x &&& ~~~ y=0#64:=by ext i hi;have:=congrArg (fun z=>z.getLsbD i) h3;simp[hi]at this ⊢;intro hx;exact this hx
 rw[this];rfl
def bt(w:Nat):List Int:=if w=0 then[]else[(w:Int)]
theorem R3:bt 0=[]:=rfl
variable{w:Nat}
theorem sR(h:w≠0):bt w=[(w:Int)]:=if_neg h
theorem zal:((bt w).length:Int)=0↔w=0:=by
 by_cases h:w=0;simp[h,bt];simp[h,bt]
theorem eh{w:Nat}{k:Nat}(hk:k<=1000):∀(j m:Nat),j<=k->j+2<=m->T8 ((w:Int)::List.replicate k 0) m ((j+1:Nat):Int)=some (bt w)
 |0,0,_,h=>by omega
 |0,1,_,h=>by omega
 |0,m+2,_,_=>by
  have e0:IntKind.i64.wrap (((0+1:Nat):Int)-1)=0:=wr (z:=0) (by omega) (by omega);have e1:aB ((w:Int)::List.replicate k 0) 0=some (w:Int):=by simp[aB]
  have e2:decide (((0+1:Nat):Int)>0)=true:=by simp
  have c0:=qw (l:=(w:Int)::List.replicate k 0) (b:=0) (by simp);have c1:=qw (l:=(w:Int)::List.replicate k 0) (b:=1) (by simp);rw[zV,List.take_zero]at c0;rw[T8,e2,e0,zC,e1,aO,aO];by_cases hw:w=0;have:((w:Int)==0)=true:=by simp[hw]
  rw[this,zC,T8];simp only[Int.lt_irrefl,yB,zD,aO,Ss,c0,show((0:Int)>0)=False by simp];rw[fG (by simp),hw,R3];have:((w:Int)==0)=false:=by simp[hw]
  rw[this,zD,Ss,show((0+1:Nat):Int)=((1:Nat):Int) by simp,c1,aO,fG (by simp),sR hw];rfl
 |j+1,m,hj,hm=>by
  obtain⟨m,rfl⟩:∃q,m=q+1:=⟨m-1,by omega⟩;have e0:IntKind.i64.wrap (((j+1+1:Nat):Int)-1)=((j+1:Nat):Int):=EA (by omega) (by omega);have e1:aB ((w:Int)::List.replicate k 0) ((j+1:Nat):Int)=some 0:=by rw[cK,zH,List.getElem?_replicate,if_pos (by omega)]
  have e2:decide (((j+1+1:Nat):Int)>0)=true:=by simp;omega
  rw[T8,e2,e0,zC,e1,aO,aO];exact eh hk j m (by omega) (by omega)
variable{n:Nat}
theorem zx(hn:5<=n):ML n [(w:Int)]=some (bt w):=eh (k:=0) (by omega) 0 n (by omega) (by omega)
theorem zy(hn:5<=n):ML n []=some []:=by
 obtain⟨k,rfl⟩:=Nat.exists_eq_add_of_le' hn;rfl
theorem zbd(hn:5<=n):ML n (bt w)=some (bt w):=by
 by_cases h:w=0;subst h;exact zy hn;rw[sR h,zx hn,sR h]
theorem V'(b n:Nat):SS n (bt b) 0=some (b:Int):=by
 by_cases h:b=0;subst h;rfl;rw[sR h];rfl
theorem z8w(ha:a<4096)(hb:b<4096)(hn:5<=n):J9 n (bt a) (bt b)=some (bt (a&&&b)):=by
 obtain⟨k,rfl⟩:=Nat.exists_eq_add_of_le' hn;by_cases h:a=0;subst h;rw[Nat.zero_and];have:=zy (n:=k+5) hn;simp only[J9,R3,Hw,zS,P2,this,aO];rfl;have h1:=QV (a:=a) (b:=b) (by omega) (by omega);have h2:=zx (w:=a&&&b) (n:=k+5) hn;have e:J9 (k+5) [(a:Int)] (bt b)=a8 (SS (k+5) (bt b) 0) fun fE=>aF ((0+1)*8<=140737488355328/\0+1<=140737488355328) (P2 (k+5) [GP .u64 (a:Int) fE]):=rfl;rw[sR h,e,V',aO,fG (by omega),P2,h1,h2];rfl
theorem z7u(ha:a<4096)(hb:b<4096)(hn:5<=n):∃c:Nat,Hl n (bt a) (bt b)=some (bt c)/\(c=0↔a&&&b=a):=by
 obtain⟨k,rfl⟩:=Nat.exists_eq_add_of_le' hn;by_cases h:a=0;subst h;have:=zy (n:=k+5) hn;refine⟨0,?_,by simp⟩;simp only[Hl,R3,Si,zS,Ip,this,aO];rfl;obtain⟨c,h1,h3⟩:=Tx (a:=a) (b:=b) (by omega) (by omega);have h2:=zx (w:=c) (n:=k+5) hn;have e:Hl (k+5) [(a:Int)] (bt b)=a8 (SS (k+5) (bt b) 0) fun fE=>aF ((0+1)*8<=140737488355328/\0+1<=140737488355328) (Ip (k+5) [SF .u64 (a:Int) fE]):=rfl;refine⟨c,?_,h3⟩;rw[sR h,e,V',aO,fG (by omega),Ip,h1,h2];rfl
theorem ij(ha:a<4096)(hb:b<4096)(hn:5<=n):YU n (bt a) (bt b)=some (decide (a&&&b=a)):=by
 obtain⟨c,h1,h2⟩:=z7u ha hb hn;rw[YU,h1,aO];congr 1;rw[Bool.eq_iff_iff,beq_iff_eq,zal,h2,decide_eq_true_eq]
theorem xv(ha:a<4096)(hb:b<4096)(hn:5<=n):Qs n (bt a) (bt b)=some (decide (a=b)):=by
 simp only[Qs,ij ha hb hn,ij hb ha hn,aO];by_cases h:a&&&b=a;by_cases h':b&&&a=b;have:a=b:=by rw[<-h,Nat.and_comm,h']
 simp[h,h',this,aO];have:a≠b:=fun e=>h' (by rw[<-e,Nat.and_self]);simp[h,h',this,aO];have:a≠b:=fun e=>h (by rw[<-e,Nat.and_self]);simp[h,this,aO]
theorem z9g{i:Nat}(hw:w<4096)(hi:i<64):Gx n (bt w) (i:Int)=some (w.testBit i):=by
 have e0:decide ((i:Int)<0)=false:=by simp
 have e1:(i:Int).tdiv 64=0:=by rw[Int.tdiv_eq_ediv_of_nonneg (by omega)];omega
 have e2:IntKind.i64.wrap 0=0:=wr (by omega) (by omega);simp only[Gx,e0,zD,aO,e1,e2];by_cases h:w=0;subst h;simp[R3];have e3:decide ((0:Int)>=((bt w).length:Int))=false:=by rw[sR h];simp
 have e4:aB (bt w) 0=some (w:Int):=by rw[sR h];rfl
 have e5:(i:Int).tmod 64=(i:Int):=by rw[Int.tmod_eq_emod_of_nonneg (by omega)];omega
 have e6:IntKind.u64.wrap (i:Int)=(i:Int):=wu (by omega);have e7:min ((i:Int).toNat) IntKind.u64.bits=i:=by rw[zZ];exact Nat.min_eq_left (by show i<=64;omega)
 have e8:(w:Int).fdiv (2^i)=((w/2^i:Nat):Int):=by rw[show(2:Int)^i=((2^i:Nat):Int) by simp,Int.fdiv_eq_ediv_of_nonneg _ (Int.natCast_nonneg _)];rfl
 have aE:w/2^i<18446744073709551616:=Nat.lt_of_le_of_lt (Nat.div_le_self _ _) (by omega);have e9:=QV (a:=w/2^i) (b:=1) aE (by omega);rw[show((1:Nat):Int)=1 from rfl]at e9;simp only[e3,zD,e4,aO,e5,e6];rw[fG (by omega),e7,e8,e9];congr 1;rw[Bool.eq_iff_iff,beq_iff_eq,Nat.testBit_eq_decide_div_mod_eq,decide_eq_true_eq,Nat.and_one_is_mod];omega
def bl(w:Nat):List Int:=((List.range 64).filter fun i=>w.testBit i).map fun(i:Nat)=>(i:Int)
theorem zb6(hw:w<4096)(hn:100<=n):jp n (bt w)=some (bl w):=by
 by_cases h:w=0;subst h;obtain⟨k,rfl⟩:=Nat.exists_eq_add_of_le' hn;have e:bl 0=[]:=by simp[bl]
 rw[e];rfl;have tN:IntKind.i64.wrap (64*((bt w).length:Int))=((List.range 64).length:Int):=by rw[sR h,List.length_range];exact wr (by simp) (by simp)
 have:=jK (l:=List.range 64) (by simp) (F:=fun m z s=>PB (bt w) n m z s) (fun i s=>s=(((List.range 64).take i).filter fun i=>w.testBit i).map fun(i:Nat)=>(i:Int)) (Q:=fun r=>r=bl w)
  (fun m i x s hx aE bG B3 hI ih=>by
   have hxi:x=i:=by rw[List.getElem?_range (by simpa using aE)]at hx;exact(Option.some.inj hx).symm
   subst hxi;have b7:s.length<=64:=by rw[hI,yA];refine Nat.le_trans (List.length_filter_le _ _) ?_;rw[List.length_take,List.length_range];omega
   rw[List.length_range]at aE;simp only[PB,tN,bG,zC,z9g hw aE,aO,Rq,B3];cases hb:w.testBit x with
   |true=>simp only[zC];rw[fG (by omega)];refine ih _ ?_;rw[j9 hx,List.filter_append,List.map_append,hI];simp[hb]|false=>simp only[zD];refine ih _ ?_;rw[j9 hx,List.filter_append,List.map_append,hI];simp[hb])
  (fun m s bG hI=>by simp only[PB,tN,bG,zD,yk];rw[zW (zF _)]at hI;exact⟨s,rfl,hI⟩) n 0 [] (by simp;omega) (by omega) (by simp)
 obtain⟨r,h1,h2⟩:=this;rw[<-h2];rw[zV]at h1;exact h1
theorem qxx(hw:w<4096)(hn:100<=n):Hm n (bt w)=some ((bl w).length:Int):=by rw[Hm,zb6 hw hn];rfl
theorem dr(hn:5<=n):OY n (bt a) (bt b)=some (decide (a=b)):=by
 obtain⟨k,rfl⟩:=Nat.exists_eq_add_of_le' hn;by_cases ha:a=0;subst ha;by_cases hb:b=0;subst hb;rfl;rw[sR hb];simp[R3,OY,Ne.symm hb];by_cases hb:b=0;subst hb;rw[sR ha];simp[R3,OY,ha];have e:OY (k+5) [(a:Int)] [(b:Int)]=cond ((a:Int) != (b:Int)) (some false) (some true):=rfl;rw[sR ha,sR hb,e];by_cases h:a=b;subst h;simp;have:((a:Int) != (b:Int))=true:=by simp;omega
 simp[this,h]
theorem Ut{ws:List Nat}(hl:ws.length<=1000)(hn:5000<=n):xn n (ws.map bt) (bt b)=some (decide (b∈ws)):=by
 have:=jK (l:=ws) (by omega) (F:=fun m z (_:Unit)=>YQ (ws.map bt) (bt b) n m z) (fun i _=>b ∉ ws.take i) (Q:=fun r=>r=decide (b∈ws))
  (fun m i x _ hx aE bG hw hI ih=>by
   have Vb:(ws.map bt)[i]? = some (bt x):=by rw[List.getElem?_map,hx];rfl
   simp only[YQ,yA,bG,zC,cK,Vb,aO,dr (a:=x) (b:=b) (n:=n) (by omega),hw];by_cases e:x=b;simp only[e,yC,zC];exact⟨true,rfl,(decide_eq_true (e ▸ zX hx)).symm⟩;simp only[e,yB,zD];refine ih () ?_;rw[j9 hx];simp[hI,Ne.symm e])
  (fun m _ bG hI=>by simp only[YQ,yA,bG,zD,kh];rw[zW (zF _)]at hI;exact⟨false,rfl,(decide_eq_false hI).symm⟩) n 0 () (by omega) (by omega) (by simp)
 obtain⟨r,h1,h2⟩:=this;rw[<-h2];rw[zV]at h1;exact h1
def JF(l:List Nat):Nat:=l.foldl (fun w i=>w|||2^i) 0
theorem cf:∀(l:List Nat)(w:Nat),(∀i∈l,i<12)->w<4096->l.foldl (fun w i=>w|||2^i) w<4096
 |[],w,_,h=>h|i::l,w,hl,h=>cf l _ (fun j hj=>hl j (by simp[hj])) (Nat.or_lt_two_pow (n:=12) h (Nat.pow_lt_pow_right (by omega) (hl i (by simp))))
theorem z9q(j:Nat):∀(l:List Nat)(w:Nat),(l.foldl (fun w i=>w|||2^i) w).testBit j=(w.testBit j||decide (j∈l))
 |[],w=>by simp
 |i::l,w=>by rw[List.foldl_cons,z9q j l,Nat.testBit_or,Nat.testBit_two_pow];by_cases e:i=j;subst e;simp;have:¬ j=i:=fun h=>e h.symm;simp[e,this,Bool.or_assoc]
theorem Ts{l:List Nat}(hl:l.length<=12)(dP:∀i∈l,i<12)(hn:5000<=n):Oo n (l.map fun(i:Nat)=>(i:Int))=some (bt (JF l),0):=by
 have g?:List.replicate (64:Int).toNat (0:Int)=((0:Nat):Int)::List.replicate 63 0:=rfl;have:=jK (l:=l) (by omega) (F:=fun m z s=>YR (l.map fun(i:Nat)=>(i:Int)) n m z s) (fun i s=>s=(((l.take i).foldl (fun w i=>w|||2^i) 0:Nat):Int)::List.replicate 63 0) (Q:=fun r=>r=(bt (JF l),0))
  (fun m i x s hx aE bG hw hI ih=>by
   have K_:=dP x (zX hx);have Vb:(l.map fun(i:Nat)=>(i:Int))[i]? = some (x:Int):=by rw[List.getElem?_map,hx];rfl
   have e1:decide ((x:Int)<0)=false:=by simp
   have e2:decide ((x:Int)>4095)=false:=by simp;omega
   have e3:IntKind.i64.wrap ((x:Int).tdiv 64)=0:=by rw[Int.tdiv_eq_ediv_of_nonneg (by omega),show(x:Int)/64=0 by omega];exact wr (by omega) (by omega)
   have e4:(x:Int).tmod 64=(x:Int):=by rw[Int.tmod_eq_emod_of_nonneg (by omega)];omega
   have e5:IntKind.u64.wrap (x:Int)=(x:Int):=wu (by omega);have e6:min ((x:Int).toNat) IntKind.u64.bits=x:=by rw[zZ];exact Nat.min_eq_left (by show x<=64;omega)
   have hw0:(l.take i).foldl (fun w i=>w|||2^i) 0<4096:=cf _ 0 (fun j hj=>dP j (List.mem_of_mem_take hj)) (by omega);have hp:2^x<4096:=Nat.pow_lt_pow_right (n:=12) (by omega) K_;have e7:IntKind.u64.wrap (1*(2^x:Int))=((2^x:Nat):Int):=by rw[Int.one_mul,show(2:Int)^x=((2^x:Nat):Int) by simp];exact wu (by omega)
   have e8:mK s 0 ((64:Int).toNat) 0=some (((l.take i).foldl (fun w i=>w|||2^i) 0:Nat):Int):=by rw[hI];rfl
   have e9:=orN (a:=(l.take i).foldl (fun w i=>w|||2^i) 0) (b:=2^x) (by omega) (by omega);simp only[YR,yA,bG,zC,cK,Vb,aO,e1,e2,zD,e3,e4,e5,e6,e7,e8,e9,hw];rw[fG (by omega)];refine ih _ ?_;rw[j9 hx,List.foldl_append,hI];rfl)
  (fun m s bG hI=>by
   simp only[YR,yA,bG,zD,ko];rw[zW (zF _)]at hI;have h1:ML n s=some (bt (JF l)):=by rw[hI];exact eh (k:=63) (by omega) 63 n (by omega) (by omega)
   rw[fG (by rw[hI];rfl),h1];exact⟨_,rfl,rfl⟩) n 0 _ (by omega) (by omega) rfl
 obtain⟨r,h1,h2⟩:=this;rw[zV]at h1;rw[Oo,fG (by decide),g?,<-h2];exact h1
inductive oD(d:List bL)(s:Str):Str->Prop
 |refl:oD d s s
 |step {t u:Str} {x:bL}:oD d s t->x∈d->x.Name=t->u∈x.Supers->oD d s u
variable{d:List bL}
variable{s:Str}
theorem oD.trans{t u:Str}(h:oD d s t)(h':oD d t u):oD d s u:=by
 induction h' with|refl=>exact h|step _ h2 h3 h4 ih=>exact .step ih h2 h3 h4
structure WL(d:List bL)(P:Str->Prop)(l:List Str):Prop where
 nod:l.Nodup
 mem:∀s∈l,lB d s/\P s
variable{l:List Str}
theorem WL.len{P:Str->Prop}(h:WL d P l):l.length<=d.length:=by
 have:=Pi (b:=d.map bL.Name) h.nod fun s hs=>by obtain⟨x,hx,rfl⟩:=(h.mem s hs).1;exact List.mem_map_of_mem hx
 rwa [yA]at this
theorem WL.snoc{d:List bL}{P:Str->Prop}{l:List Str}(h:WL d P l){s:Str}(hn:s ∉ l)(hs:lB d s/\P s):WL d P (l++[s]):=by
 refine⟨?_,fun t ht=>?_⟩;rw[List.nodup_append];exact⟨h.nod,by simp,fun a ha b hb e=>by simp at hb;subst hb;subst e;exact hn ha⟩;rcases yD.1 ht with ht |ht;exact h.mem t ht;simp at ht;subst ht;exact hs
variable{n:Nat}
theorem z4x(hl:l.length<=1000)(hn:5000<=n):(∃out,T4 n l n [] 0=some out/\yL [] l out)/\∃out,T5 n l n [] 0=some out/\yL [] l out:=by
 constructor;have:=jK (l:=l) (by omega) (F:=fun m z s=>T4 n l m s z) (fun i s=>yL [] (l.take i) s) (Q:=fun out=>yL [] l out)
  (fun m i x s hx aE bG hw hI ih=>by have hl:=hI.len;simp at hl;obtain⟨o,h1,h2,h3,h4⟩:=Fp (l:=s) (by omega) hI.asc x (show s.length<n by omega);simp only[T4,bG,zC,cK,hx,aO,h1,hw];exact ih o (by rw[j9 hx];exact hI.next h2 h3 h4))
  (fun m s bG hI=>by simp only[T4,bG,zD,mb];rw[zW (zF _)]at hI;exact⟨s,rfl,hI⟩) n 0 [] (by omega) (by omega) (yL.nil List.Pairwise.nil)
 rw[zV]at this;exact this;have:=jK (l:=l) (by omega) (F:=fun m z s=>T5 n l m s z) (fun i s=>yL [] (l.take i) s) (Q:=fun out=>yL [] l out)
  (fun m i x s hx aE bG hw hI ih=>by have hl:=hI.len;simp at hl;obtain⟨o,h1,h2,h3,h4⟩:=Fp (l:=s) (by omega) hI.asc x (show s.length<n by omega);simp only[T5,bG,zC,cK,hx,aO,h1,hw];exact ih o (by rw[j9 hx];exact hI.next h2 h3 h4))
  (fun m s bG hI=>by simp only[T5,bG,zD,mh];rw[zW (zF _)]at hI;exact⟨s,rfl,hI⟩) n 0 [] (by omega) (by omega) (yL.nil List.Pairwise.nil)
 rw[zV]at this;exact this
theorem z6q(h:AF d)(hs:lB d s)(hn:5000<=n):∃l,Qq n d s=some l/\fO l/\l.length<=12/\∀x,x∈l↔lB d x/\oD d x s:=by
 have hd:=h.len;have key:∀(m i:Nat)(l:List Str),d.length+1-i<=m->i<=l.length->WL d (fun x=>oD d x s) l->s∈l->(∀y∈l.take i,∀x∈d,y∈x.Supers->x.Name∈l)->
   ∃r,MQ d n m i l=some r/\fO r/\r.length<=12/\∀x,x∈r↔lB d x/\oD d x s:=by
  intro m;induction m with
  |zero=>intro i l hm hi hw;have:=hw.len;omega|succ m ih=>
   intro i l hm hi hw JZ eR;have G2:=hw.len;unfold MQ;by_cases aE:i<l.length;obtain⟨y,hy,C1⟩:=eM aE;simp only[hH aE,zC];have:=jK (l:=d) (by omega) (F:=fun m' z (l':List Str)=>PI d n i (MQ d n m) m' z l') (fun k l'=>WL d (fun x=>oD d x s) l'/\(∃t,l'=l++t)/\∀x∈d.take k,y∈x.Supers->x.Name∈l') (Q:=fun r=>fO r/\r.length<=12/\∀x,x∈r↔lB d x/\oD d x s)
    (fun m' k x l' hx tG bG B3 hI kY=>by
     obtain⟨HN,⟨t,jO⟩,HM⟩:=hI;have gM:=zX hx;have w?:=HN.len;have FU:l'[i]? = some y:=by rw[jO,List.getElem?_append_left aE];exact hy
     have Kd:=(h.siz x gM).1;simp only[PI,bG,zC,cK,hx,aO,FU,OT (l:=x.Supers) (by omega) y (n:=n) (by omega),OT (l:=l') (by omega) x.Name (n:=n) (by omega),Sf,B3];by_cases h1:y∈x.Supers;by_cases h2:x.Name∈l';simp only[h1,h2,yC,zC,aO,Bool.not_true,zD];refine kY l' ⟨HN,⟨t,jO⟩,fun z hz Jy=>?_⟩;rw[j9 hx]at hz;rcases yD.1 hz with hz |hz;exact HM z hz Jy;simp at hz;subst hz;exact h2;simp only[h1,h2,yC,yB,zC,aO,Bool.not_false];rw[fG (by omega)];have hys:=(hw.mem y C1).2;refine kY (l'++[x.Name]) ⟨HN.snoc h2 ⟨⟨x,gM,rfl⟩,(oD.step .refl gM rfl h1).trans hys⟩,⟨t++[x.Name],by rw[jO,zT]⟩,fun z hz Jy=>?_⟩;rw[j9 hx]at hz;rcases yD.1 hz with hz |hz;exact List.mem_append_left _ (HM z hz Jy);simp at hz;subst hz;simp;simp only[h1,yB,zD,aO];refine kY l' ⟨HN,⟨t,jO⟩,fun z hz Jy=>?_⟩;rw[j9 hx]at hz;rcases yD.1 hz with hz |hz;exact HM z hz Jy;simp at hz;subst hz;exact absurd Jy h1)
    (fun m' l' bG hI=>by
     obtain⟨HN,⟨t,jO⟩,HM⟩:=hI;rw[zW (zF _)]at HM;simp only[PI,bG,zD,ma,iU aE (show l.length<=9223372036854775807 by omega)];refine ih (i+1) l' (by omega) (by rw[jO];simp;omega) HN (by rw[jO];exact List.mem_append_left _ JZ) fun z hz x hx hzx=>?_;rw[jO,List.take_append_of_le_length (by omega),j9 hy]at hz;rcases yD.1 hz with hz |hz
     rw[jO];exact List.mem_append_left _ (eR z hz x hx hzx);simp at hz;subst hz;exact HM x hx hzx) n 0 l (by omega) (by omega) ⟨hw,⟨[],by simp⟩,by simp⟩
   rw[zV]at this;exact this;have jA:i=l.length:=by omega
   subst jA;rw[zW (zF _)]at eR;simp only[iF aE,zD,mc];obtain⟨out,g1,g2⟩:=(z4x (l:=l) (by omega) hn).1;have b7:=g2.len;simp at b7;refine⟨out,g1,g2.asc,by omega,fun x=>?_⟩;rw[g2.mem];simp only[List.not_mem_nil,false_or];constructor;exact fun hx=>hw.mem x hx;rintro⟨_,hu⟩;have:∀{t:Str},oD d x t->t∈l->x∈l:=by
    intro t ht;induction ht with
    |refl=>exact id|step _ h2 h3 h4 ih=>exact fun hu=>ih (h3 ▸ eR _ hu _ h2 h4)
   exact this hu JZ
 obtain⟨j,x,g1,g2,g3⟩:=fk (d:=d) (by omega) hs (n:=n) (by omega);have hj:¬ (j:Int)<0:=by omega
 simp only[Qq,g3,aO,hj,yB,zD];have:=key n 0 [s] (by omega) (by omega) ⟨by simp,fun t ht=>by simp at ht;subst ht;exact⟨hs,.refl⟩⟩ (by simp) (by simp);rw[zV]at this;exact this
theorem qub(h:Nx d){x y:bL}(hx:x∈d)(hy:y∈d)(e:x.Name=y.Name):x=y:=by
 have:=h.nod;clear h;induction d with
 |nil=>cases hx|cons z d ih=>rw[zQ,List.nodup_cons]at this;rcases zI.1 hx with h1 |h1;rcases zI.1 hy with h2 |h2;rw[h1,h2];exact absurd (List.mem_map.2 ⟨y,h2,by rw[<-e,h1]⟩) this.1;rcases zI.1 hy with h2 |h2;exact absurd (List.mem_map.2 ⟨x,h1,by rw[e,h2]⟩) this.1;exact ih h1 h2 this.2
theorem z6k(h:AF d)(hs:lB d s)(hn:5000<=n):∃l,Qr n d s=some l/\fO l/\l.length<=12/\∀x,x∈l↔lB d x/\oD d s x:=by
 have hd:=h.len;have key:∀(m i:Nat)(l:List Str),d.length+1-i<=m->i<=l.length->WL d (fun x=>oD d s x) l->s∈l->(∀y∈l.take i,∀x∈d,x.Name=y->∀u∈x.Supers,u∈l)->
   ∃r,MR d n m i l=some r/\fO r/\r.length<=12/\∀x,x∈r↔lB d x/\oD d s x:=by
  intro m;induction m with
  |zero=>intro i l hm hi hw;have:=hw.len;omega|succ m ih=>
   intro i l hm hi hw JZ eR;have G2:=hw.len;unfold MR;by_cases aE:i<l.length;obtain⟨y,hy,C1⟩:=eM aE;obtain⟨j,x,g1,g2,g3⟩:=fk (d:=d) (by omega) (hw.mem y C1).1 (n:=n) (by omega);have gM:=zX g1;have Kd:=(h.siz x gM).1;simp only[hH aE,zC,cK,hy,aO,g3,g1];have:=jK (l:=x.Supers) (by omega) (F:=fun m' z (l':List Str)=>PJ n i (MR d n m) x m' z l') (fun k l'=>WL d (fun x=>oD d s x) l'/\(∃t,l'=l++t)/\∀u∈x.Supers.take k,u∈l') (Q:=fun r=>fO r/\r.length<=12/\∀x,x∈r↔lB d x/\oD d s x)
    (fun m' k u l' hu tG bG B3 hI kY=>by obtain⟨HN,⟨t,jO⟩,HM⟩:=hI;have pz:=zX hu;have w?:=HN.len;simp only[PJ,bG,zC,cK,hu,aO,OT (l:=l') (by omega) u (n:=n) (by omega),Sh,B3];by_cases h2:u∈l';simp only[h2,yC,Bool.not_true,zD];refine kY l' ⟨HN,⟨t,jO⟩,fun z hz=>?_⟩;rw[j9 hu]at hz;rcases yD.1 hz with hz |hz;exact HM z hz;simp at hz;subst hz;exact h2;simp only[h2,yB,Bool.not_false,zC];rw[fG (by omega)];refine kY (l'++[u]) ⟨HN.snoc h2 ⟨(h.sup x gM).1 u pz,.step (hw.mem y C1).2 gM g2 pz⟩,⟨t++[u],by rw[jO,zT]⟩,fun z hz=>?_⟩;rw[j9 hu]at hz;rcases yD.1 hz with hz |hz;exact List.mem_append_left _ (HM z hz);simp at hz;subst hz;simp)
    (fun m' l' bG hI=>by
     obtain⟨HN,⟨t,jO⟩,HM⟩:=hI;rw[zW (zF _)]at HM;simp only[PJ,bG,zD,mf,iU aE (show l.length<=9223372036854775807 by omega)];refine ih (i+1) l' (by omega) (by rw[jO];simp;omega) HN (by rw[jO];exact List.mem_append_left _ JZ) fun z hz w B3 pq u hu=>?_;rw[jO,List.take_append_of_le_length (by omega),j9 hy]at hz;rcases yD.1 hz with hz |hz
     rw[jO];exact List.mem_append_left _ (eR z hz w B3 pq u hu);simp at hz;subst hz;have:=qub h.nam B3 gM (pq.trans g2.symm);subst this;exact HM u hu) n 0 l (by omega) (by omega) ⟨hw,⟨[],by simp⟩,by simp⟩
   rw[zV]at this;exact this;have jA:i=l.length:=by omega
   subst jA;rw[zW (zF _)]at eR;simp only[iF aE,zD,mj];obtain⟨out,g1,g2⟩:=(z4x (l:=l) (by omega) hn).2;have b7:=g2.len;simp at b7;refine⟨out,g1,g2.asc,by omega,fun x=>?_⟩;rw[g2.mem];simp only[List.not_mem_nil,false_or];constructor;exact fun hx=>hw.mem x hx;rintro⟨_,hu⟩;clear g1 g2;induction hu with
   |refl=>exact JZ|step h1 h2 h3 h4 ih=>exact eR _ (ih ⟨_,h2,h3⟩) _ h2 h3 _ h4
 obtain⟨j,x,g1,g2,g3⟩:=fk (d:=d) (by omega) hs (n:=n) (by omega);have hj:¬ (j:Int)<0:=by omega
 simp only[Qr,g3,aO,hj,yB,zD];have:=key n 0 [s] (by omega) (by omega) ⟨by simp,fun t ht=>by simp at ht;subst ht;exact⟨hs,.refl⟩⟩ (by simp) (by simp);rw[zV]at this;exact this
theorem zby(h:AF d){a b:Str}(ha:lB d a)(hb:lB d b)(h1:oD d a b)(h2:oD d b a):a=b:=by
 obtain⟨l,hl,b7⟩:=h.ord;have cP:∀s,lB d s->s∈l:=fun s ⟨x,hx,e⟩=>by
  apply Classical.byContradiction;intro hn;have h3:=Pi (a:=s::l) (b:=d.map bL.Name) (List.nodup_cons.2 ⟨hn,hl.nodup.1⟩) fun t ht=>by rcases zI.1 ht with rfl |ht;rw[<-e];exact List.mem_map_of_mem hx;obtain⟨y,hy,rfl⟩:=hl.nodup.2 t ht;exact List.mem_map_of_mem hy
  simp at h3;omega
 have pK:∀{l:List Str},Ord d l->∀s∈l,∀t,oD d s t->∃l1 l2,l=l1++s::l2/\(t=s\/t∈l1):=by
  intro l hl;induction hl with
  |nil=>intro s hs;cases hs| @snoc l x g1 g2 g3 g4 ih=>
   have eR:∀s∈l,∀t,oD d s t->t∈l:=fun s hs t ht=>by obtain⟨l1,l2,e1,e2⟩:=ih s hs t ht;rcases e2 with rfl |e2;exact hs;rw[e1];exact List.mem_append_left _ e2
   intro s hs t ht;rcases yD.1 hs with hs |hs;obtain⟨l1,l2,e1,e2⟩:=ih s hs t ht;exact⟨l1,l2++[x.Name],by rw[e1];simp,e2⟩;simp at hs;subst hs;refine⟨l,[],rfl,?_⟩;induction ht with
   |refl=>exact .inl rfl|step _ h2 h3 h4 kY=>rcases kY with e |e;have:=qub h.nam h2 g2 (h3.trans e);subst this;exact .inr (g4 _ h4);exact .inr (eR _ e _ (.step .refl h2 h3 h4))
 obtain⟨l1,l2,e1,e2⟩:=pK hl a (cP a ha) b h1;obtain⟨l3,l4,e3,e4⟩:=pK hl b (cP b hb) a h2;rcases e2 with e2 |e2;exact e2.symm;rcases e4 with e4 |e4;exact e4
 ·-- b ahead of a,and a ahead of b
  have hn:=hl.nodup.1;obtain⟨p,q,e5⟩:=List.append_of_mem e2;rw[e5]at e1;have:l3=p:=by
   have xB:b ∉ p:=fun hp=>by rw[e1]at hn;simp only[zT,List.cons_append]at hn;rw[List.nodup_append]at hn;exact hn.2.2 b hp b (by simp) rfl
   have hb3:b ∉ l3:=fun hp=>by rw[e3,List.nodup_append]at hn;exact hn.2.2 b hp b (by simp) rfl
   rw[e1]at e3;simp only[zT,List.cons_append]at e3;clear e1 hn e5 e4 hl;induction p generalizing l3 with
   |nil=>rcases l3 with _|⟨z,l3⟩;rfl;simp at e3;exact absurd (by rw[e3.1];simp) hb3
   |cons y p ihp=>rcases l3 with _|⟨z,l3⟩;simp at e3;exact absurd (by rw[<-e3.1];simp) xB;simp at e3;rw[<-e3.1,ihp l3 (fun hh=>xB (List.mem_cons_of_mem _ hh)) (fun hh=>hb3 (List.mem_cons_of_mem _ hh)) e3.2]
  rw[this]at e4;rw[e1]at hn;exact absurd rfl ((List.nodup_append.1 hn).2.2 a (List.mem_append_left _ e4) a (by simp))
theorem qwh(h:AF d)(hl:l.length<=1000)(hn:5000<=n):∃out,lw n d l=some out/\fO out/\out.length<=l.length/\∀x∈out,x∈l/\lB d x:=by
 have hd:=h.len;have:=jK (l:=l) (by omega) (F:=fun m z s=>PN d l n m s z) (fun i s=>fO s/\s.length<=i/\∀x∈s,x∈l/\lB d x) (Q:=fun out=>fO out/\out.length<=l.length/\∀x∈out,x∈l/\lB d x)
  (fun m i x s hx aE bG hw hI ih=>by
   obtain⟨i1,i2,i3⟩:=hI;simp only[PN,bG,zC,cK,hx,aO,Tc,hw];rcases OO (d:=d) (by omega) x (show d.length<n by omega)with⟨j,y,g1,g2,g3,g4⟩|⟨g1,g2⟩;obtain⟨o,h1,h2,h3,h4⟩:=Fp (l:=s) (by omega) i1 x (show s.length<n by omega);have hj:(j:Int)>=0:=by omega
   simp only[g4,aO,hj,yC,zC,h1];refine ih o ⟨h4,by omega,fun z hz=>?_⟩;rcases(h2 z).1 hz with rfl |hz;exact⟨zX hx,y,zX g1,g2⟩;exact i3 z hz;simp only[g2,aO];exact ih s ⟨i1,by omega,i3⟩)
  (fun m s bG hI=>by simp only[PN,bG,zD,sa];exact⟨s,rfl,hI⟩) n 0 [] (by omega) (by omega) ⟨List.Pairwise.nil,by simp,by simp⟩
 rw[zV]at this;exact this
theorem qrb(h:AF d)(hl:l.length<=1000)(hn:5000<=n):∃out,Ig n d l=some out/\out.length<=l.length/\∀x∈out,x∈l/\lB d x:=by
 obtain⟨all,a1,a2,a3,a4⟩:=qwh h hl hn;have:=jK (l:=all) (by omega) (F:=fun m z s=>JE d n all m z s) (fun i s=>s.length<=i/\∀x∈s,x∈l/\lB d x) (Q:=fun out=>out.length<=l.length/\∀x∈out,x∈l/\lB d x)
  (fun m i x s hx aE bG hw hI ih=>by
   obtain⟨i2,i3⟩:=hI;have gM:=a4 x (zX hx);obtain⟨up,u1,u2,u3,u4⟩:=z6k h gM.2 hn;simp only[JE,bG,zC,cK,hx,aO,u1];have:=jK (l:=all) (by omega) (F:=fun m' z b=>ZK n all i s (JE d n all m) up m' b z) (fun _ _=>True) (Q:=fun out=>out.length<=l.length/\∀x∈out,x∈l/\lB d x)
    (fun m' k y b hy tG dK xY _ kY=>by
     simp only[ZK,dK,zC,xY,cK,hy,aO,OT (l:=up) (by omega) y (n:=n) (by omega)];cases b with
     |true=>rcases((k:Int)==(i:Int))with _|_;exact kY _ trivial;exact kY true trivial
     |false=>exact kY false trivial)
    (fun m' b dK _=>by
     simp only[ZK,dK,zD,ur,Sy,hw,cK,hx,aO];cases b with
     |true=>simp only[zC];rw[fG (by omega)];refine ih (s++[x]) ⟨by simp;omega,fun z hz=>?_⟩;rcases yD.1 hz with hz |hz;exact i3 z hz;simp at hz;subst hz;exact gM
     |false=>exact ih s ⟨by omega,i3⟩) n 0 true (by omega) (by omega) trivial
   rw[zV]at this;exact this)
  (fun m s bG hI=>by simp only[JE,bG,zD,ut];exact⟨s,rfl,by omega,hI.2⟩) n 0 [] (by omega) (by omega) ⟨by simp,by simp⟩
 rw[zV]at this;rw[Ig,a1];exact this
end Go.Proofs
