import Derived.Shelf.SlSortCmp.WholeK
import Derived.Test.YtldlchbgolpkaaaGreatP17
set_option linter.all false
namespace Go.Vx
open Go Go.Rx Go.Proofs Go.Sort
def WD{v11:Type}(lt:v11->v11->Bool)(x:v11):I v11->I v11
 |[]=>[x]|y::l=>cond (lt y x) (y::WD lt x l) (x::y::l)
def srt{v11:Type}(lt:v11->v11->Bool):I v11->I v11
 |[]=>[]|x::l=>WD lt x (srt lt l)
def b_{v11:Type}(lt:v11->v11->Bool)(x:v11):∀l,(WD lt x l).Perm (x::l)
 |[]=>.refl _|y::l=>by simp only[WD];rcases lt y x with _|_;exact .refl _;exact((b_ lt x l).cons y).trans (.swap _ _ _)
def z02{v11:Type}(lt:v11->v11->Bool):∀l,(srt lt l).Perm l
 |[]=>.refl _|x::l=>(b_ lt x _).trans ((z02 lt l).cons x)
def Asc{v11:Type}(lt:v11->v11->Bool)(l:I v11):Prop:=l.Pairwise (fun x y=>lt y x=false)
def qyx{v11:Type}{lt:v11->v11->Bool}(h:SWO lt)(x:v11):∀{l},Asc lt l->Asc lt (WD lt x l)
 |[],_=>by simp[WD,Asc]
 |y::l,ha=>by
  simp only[WD];unfold Asc at ha ⊢;rw[List.pairwise_cons]at ha;cases hy:lt y x with
  |true=>simp only[zC];rw[List.pairwise_cons];refine⟨fun z hz=>?_,qyx h x ha.2⟩;have:=(b_ lt x l).mem_iff.1 hz;rcases zI.1 this with rfl |hz;rcases hzy:lt z y with _|_;rfl;have:=h.trans y z y hy hzy;rw[h.irrefl]at this;cases this;exact ha.1 z hz
  |false=>simp only[zD];rw[List.pairwise_cons];refine⟨fun z hz=>?_,List.pairwise_cons.2 ha⟩;rcases zI.1 hz with rfl |hz;exact hy;exact h.ntrans z y x (ha.1 z hz) hy
def z6a{v11:Type}{lt:v11->v11->Bool}(h:SWO lt):∀l,Asc lt (srt lt l)
 |[]=>by simp[srt,Asc]
 |x::l=>qyx h x (z6a h l)
end Go.Vx
namespace Go.Proofs
open Go Go.Rx Go.Vx Go.Shelf Go.Sort
def B_:∀a b:I UInt8,lQ a b=true↔a=b
 |[],[]=>by simp[lQ]
 |[],_::_=>by simp[lQ]
 |_::_,[]=>by simp[lQ]
 |x::a,y::b=>by have h:(x.toNat=y.toNat)↔x=y:=UInt8.toNat_inj;simp only[lQ,beq_eq];by_cases e:x=y;subst e;simp[B_ a b];simp[e,mt h.1 e]
def zb6(a b:Nat):Nat.blt a b=true↔a<b:=by unfold Nat.blt;rw[Nat.ble_eq];exact Iff.rfl
def u6(a b:Nat):Nat.blt a b=decide (a<b):=by rw[Bool.eq_iff_iff,zb6];simp
def qk6:∀a:I UInt8,kT a a=false
 |[]=>rfl|x::a=>by simp[kT,u6,qk6 a]
def qlb:∀a b c:I UInt8,kT a b=true->kT b c=true->kT a c=true
 |_,[],_,h,_=>by simp[kT]at h
 |_,_::_,[],_,h=>by simp[kT]at h
 |[],_::_,_::_,_,_=>by simp[kT]
 |x::a,y::b,z::c,h1,h2=>by
  simp only[kT,u6,beq_eq]at*;by_cases h:x.toNat<y.toNat;by_cases h':y.toNat<z.toNat;have:x.toNat<z.toNat:=by omega
  simp[this];simp only[h',yB,zD]at h2;by_cases e:y.toNat=z.toNat;have:x.toNat<z.toNat:=by omega
  simp[this];simp[e]at h2;simp only[h,yB,zD]at h1;by_cases e:x.toNat=y.toNat;simp only[e,yC,zC]at h1;by_cases h':y.toNat<z.toNat;simp[e,h'];simp only[h',yB,zD]at h2;by_cases e':y.toNat=z.toNat;simp only[e',yC,zC]at h2;have:=qlb a b c h1 h2;simp[e,e',this];simp[e']at h2;simp[e]at h1
def qla:∀a b:I UInt8,kT a b=false->kT b a=false->a=b
 |[],[],_,_=>rfl|[],_::_,h,_=>by simp[kT]at h
 |_::_,[],_,h=>by simp[kT]at h
 |x::a,y::b,h1,h2=>by
  simp only[kT,u6,beq_eq]at*;by_cases h:x.toNat<y.toNat;simp[h]at h1;by_cases h':y.toNat<x.toNat;simp[h']at h2;have e:x.toNat=y.toNat:=by omega
  simp only[e,Nat.lt_irrefl,yB,zD,yC,zC]at h1 h2;rw[qla a b h1 h2,UInt8.toNat_inj.1 e]
variable{v11:Type}
def aP{β:Type}(a:v11)(k:v11->V β):a8 (some a) k=k a:=rfl
def wr{z:Int}(h1 : -9223372036854775808<=z)(h2:z<=9223372036854775807):IntKind.i64.wrap z=z:=wrap_i64 (by omega) (by omega)
variable{i:Nat}
def iG{len:Nat}(h:i<len)(hl:len<=9223372036854775807):IntKind.i64.wrap ((i:Int)+1)=((i+1:Nat):Int):=by rw[wr (by omega) (by omega)];simp
def GK{z:Int}{k:Nat}(h:z=k)(h2:k<=9223372036854775807):IntKind.i64.wrap z=(k:Int):=by subst h;exact wr (by omega) (by omega)
variable{l:I v11}
def eI(h:i<l.length):∃x,l[i]? = some x/\x∈l:=⟨l[i],by simp[h],by simp⟩
variable{x:v11}
def j5(h:l[i]? = some x):l.take (i+1)=l.take i++[x]:=by rw[List.take_add_one,h];rfl
def aX(h:l[i]? = some x):l.drop i=x::l.drop (i+1):=by have aE:i<l.length:=(zG.1 h).1;rw[List.drop_eq_getElem_cons aE];congr 1;rw[List.getElem?_eq_getElem aE]at h;exact Option.some.inj h
def gS{n:Nat}(h:i<n):decide ((i:Int)<(n:Int))=true:=by simp;omega
def hZ{n:Nat}(h:¬ i<n):decide ((i:Int)<(n:Int))=false:=by simp;omega
def bV(h:¬ i<l.length):l.drop i=[]:=List.drop_eq_nil_of_le (by omega)
structure Cmp{v11:Type}(c:v11->v11->Int):Prop where
 val:∀x y,c x y= -1\/c x y=0\/c x y=1
 anti:∀x y,c y x= - c x y
 trans:∀x y z,c x y<=0->c y z<=0->c x z<=0
variable{c:v11->v11->Int}
def Cmp.self(h:Cmp c)(x:v11):c x x=0:=by have:=h.anti x x;omega
variable{y:v11}
def Cmp.congr(h:Cmp c)(DC:c x y=0)(z:v11):c x z=c y z:=by have h1:=h.val x z;have h2:=h.val y z;have a1:=h.anti x y;have a2:=h.anti x z;have a3:=h.anti y z;have t1:=h.trans x y z;have t2:=h.trans y x z;have t3:=h.trans z x y;have t4:=h.trans z y x;omega
def Cmp.congr'(h:Cmp c)(DC:c x y=0)(z:v11):c z x=c z y:=by have h1:=h.congr DC z;have a2:=h.anti x z;have a3:=h.anti y z;omega
def Cmp.lt_of(h:Cmp c){z:v11}(h1:c x y<0)(h2:c y z<=0):c x z<0:=by have t1:=h.trans x y z (by omega) h2;rcases Int.lt_or_eq_of_le t1 with h3 |h3;exact h3;have:=h.congr h3 y;have a3:=h.anti y z;omega
def GD{v11:Type}(c d:v11->v11->Int)(x y:v11):Int:=if c x y≠0 then c x y else d x y
def Cmp.lex{d:v11->v11->Int}(hc:Cmp c)(hd:Cmp d):Cmp (GD c d) where
 val x y:=by unfold GD;split;exact hc.val x y;exact hd.val x y
 anti x y:=by
  unfold GD;have a1:=hc.anti x y;have a2:=hd.anti x y;by_cases h:c x y=0;have:c y x=0:=by omega
  simp[h,this,a2];have:¬ c y x=0:=by omega
  simp[h,this,a1]
 trans x y z h1 h2:=by
  unfold GD at*;by_cases h:c x y=0;have e:=hc.congr h z;simp only[h,ne_eq,not_true,if_false]at h1;rw[e];by_cases h':c y z=0;simp only[h',ne_eq,not_true,if_false]at h2 ⊢;exact hd.trans x y z h1 h2;simp only[h',ne_eq,not_false_eq_true,if_true]at h2 ⊢;exact h2;simp only[h,ne_eq,not_false_eq_true,if_true]at h1;have xU:c x y<0:=by omega
  by_cases h':c y z=0;have e:=hc.congr' h' x;rw[<-e];simp only[h,ne_eq,not_false_eq_true,if_true];exact h1;simp only[h',ne_eq,not_false_eq_true,if_true]at h2;have:=hc.lt_of xU h2;have d5:¬ c x z=0:=by omega
  simp only[d5,ne_eq,not_false_eq_true,if_true];omega
def a_{d:v11->v11->Int}:GD c d x y=0↔c x y=0/\d x y=0:=by unfold GD;by_cases h:c x y=0<;>simp[h]
def Cmp.pull{β:Type}(h:Cmp c)(f:β->v11):Cmp (fun x y=>c (f x) (f y)):=⟨fun x y=>h.val _ _,fun x y=>h.anti _ _,fun x y z=>h.trans _ _ _⟩
def pQ(a b:Int):Int:=if a<b then -1 else if b<a then 1 else 0
def Qj{a b:Int}:pQ a b=0↔a=b:=by unfold pQ;split;omega;split<;>omega
def Gx:Cmp pQ where
  val x y := by unfold pQ; split; · simp
                split<;>simp
  anti x y:=by unfold pQ;split<;>split<;>(try split)<;>omega
  trans x y z:=by unfold pQ;intro h1 h2;split at h1<;>split at h2<;>(try split at h1)<;>(try split at h2)<;>(try split)<;>(try split)<;>omega
def z86(c:v11->v11->Int)(x y:v11):ltOf c x y=true↔c x y<0:=by simp[ltOf]
def Cmp.swo(h:Cmp c):SWO (ltOf c) where
 irrefl x:=by have:=h.self x;simp[ltOf,this]
 trans x y z h1 h2:=by rw[z86]at*;exact h.lt_of h1 (by omega)
 ntrans x y z h1 h2:=by
  have e:∀a b,ltOf c a b=false↔c b a<=0:=fun a b=>by have:=h.anti a b;simp[ltOf];omega
  rw[e]at*;exact h.trans z y x h2 h1
section
variable{v11:Type}{c:v11->v11->Int}
def XS(hc:Cmp c)(l:I v11):(srt (ltOf c) l).Pairwise (fun x y=>c x y<=0):=by have:=z6a hc.swo l;refine List.Pairwise.imp ?_ this;intro x y h;have:=hc.anti x y;simp[ltOf]at h;omega
end
end Go.Proofs
namespace Go.Vx
open Go Go.Rx
section
variable{K v09:Type}[DecidableEq K]
def vM(k:K):I (K×v09×Nat)->V v09
 |[]=>none|e::es=>if k=e.1 then some e.2.1 else vM k es
variable{eq:K->K->Bool}(he:∀a b,eq a b=true↔a=b)
include he
omit [DecidableEq K] in
def qd{a b:K}(h:¬ a=b):eq a b=false:=by rcases h':eq a b with _|_;rfl;exact absurd ((he a b).1 h') h
def oa(k:K):∀(es:I (K×v09×Nat))(i:Nat),(AM eq k es i).map (fun x=>x.2.1)=vM k es
 |[],i=>rfl|e::es,i=>by simp only[AM,vM];by_cases h:k=e.1;rw[(he k e.1).2 h,if_pos h];rfl;rw[qd he h,if_neg h];exact oa k es (i+1)
def z87(m:kG K v09)(k:K):I0 eq m k=vM k m.es:=oa he k m.es 0
def z3t(k:K)(v:v09):∀{es:I (K×v09×Nat)}{i j:Nat}{q:v09×Nat},AM eq k es i=some (j,q)->i<=j/\∀x,vM x (AJ v es (j-i))=if x=k then some v else vM x es
 |[],i,j,q,h=>by cases h
 |e::es,i,j,q,h=>by simp only[AM]at h;by_cases hk:k=e.1;rw[(he k e.1).2 hk]at h;simp only[zC,zA,zB]at h;obtain⟨rfl,_⟩:=h;refine⟨zF _,fun x=>?_⟩;simp only[Nat.sub_self,AJ,vM,hk];split<;>rfl;rw[qd he hk]at h;simp only[zD]at h;obtain⟨h1,h2⟩:=z3t k v h;refine⟨by omega,fun x=>?_⟩;rw[show j-i=(j-(i+1))+1 by omega];simp only[AJ,vM,h2];by_cases hx:x=e.1;have:¬ x=k:=fun h=>hk (h ▸ hx);simp[hx];intro h;exact absurd h.symm hk;simp[hx]
omit he [DecidableEq K] in
def qzz(v:v09):∀(es:I (K×v09×Nat))(i:Nat),(AJ v es i).map (fun e=>e.1)=es.map (fun e=>e.1)/\(AJ v es i).map (fun e=>e.2.2)=es.map (fun e=>e.2.2)
 |[],i=>by simp[AJ]
 |e::es,0=>by simp[AJ]
 |e::es,i+1=>by simp[AJ,qzz v es i]
omit he in
def J3(x k:K)(v:v09)(b:Nat):∀es:I (K×v09×Nat),vM x (es++[(k,v,b)])=if vM x es=none then(if x=k then some v else none)else vM x es
 |[]=>by simp[vM]
 |e::es=>by simp only[List.cons_append,vM];by_cases hx:x=e.1;simp[hx];simp only[hx,if_false];exact J3 x k v b es
structure MInv(m:kG K v09):Prop where
 keys:(m.es.map (fun e=>e.1)).Nodup
 borns:(m.es.map (fun e=>e.2.2)).Nodup
 lt:∀e∈m.es,e.2.2<m.cl
omit he in
def MInv.app{m:kG K v09}(h:MInv m){k:K}(hf:vM k m.es=none)(v:v09):MInv (⟨m.es++[(k,v,m.cl)],m.cl+1⟩:kG K v09):=by
 refine⟨?_,?_,?_⟩;simp only[List.map_append,zQ,List.map_nil];rw[List.nodup_append];refine⟨h.keys,by simp,?_⟩;intro a ha b hb uQ;simp only[List.mem_singleton]at hb;subst uQ hb;clear h;generalize m.es=es at*;induction es with
 |nil=>simp at ha|cons e es ih=>simp only[vM]at hf;by_cases hx:a=e.1;simp[hx]at hf;simp only[hx,if_false]at hf;simp only[zQ,zI,hx,false_or]at ha;exact ih ha hf
 simp only[List.map_append,zQ,List.map_nil];rw[List.nodup_append];refine⟨h.borns,by simp,?_⟩;intro a ha b hb uQ;simp only[List.mem_singleton]at hb;obtain⟨e,he,rfl⟩:=List.mem_map.1 ha;have:=h.lt e he;omega;intro e he;rcases yD.1 he with he |he;have:=h.lt e he;simp only;omega;simp only[List.mem_singleton]at he;subst he;simp
omit he [DecidableEq K] in
def MInv.set{m:kG K v09}(h:MInv m)(v:v09)(i:Nat):MInv (⟨AJ v m.es i,m.cl⟩:kG K v09):=by obtain⟨h1,h2⟩:=qzz v m.es i;refine⟨by simp only[h1];exact h.keys,by simp only[h2];exact h.borns,fun e he=>?_⟩;have:e.2.2∈(AJ v m.es i).map (fun e=>e.2.2):=List.mem_map.2 ⟨e,he,rfl⟩;rw[h2]at this;obtain⟨e',g1,g2⟩:=List.mem_map.1 this;have:=h.lt e' g1;simp only at g2 ⊢;omega
def WT{m:kG K v09}(h:MInv m)(k:K)(v:v09):MInv (D4 eq m k v)/\∀x,vM x (D4 eq m k v).es=if x=k then some v else vM x m.es:=by
 unfold D4;cases hf:AM eq k m.es 0 with
 |none=>
  have hg:vM k m.es=none:=by rw[<-oa he k m.es 0,hf];rfl
  refine⟨h.app hg v,fun x=>?_⟩;simp only[J3];by_cases hx:x=k;simp[hx,hg];simp only[hx,if_false];split<;>simp_all
 |some q=>obtain⟨j,q⟩:=q;have:=(z3t he k v hf).2;exact⟨h.set v j,fun x=>by simpa using this x⟩
end
end Go.Vx
namespace Go.Proofs
open Go Go.Rx Go.Vx Go.Shelf Go.Sort
set_option maxRecDepth 10000
def oH{v11:Type}(c:v11->v11->Int):I v11->I v11->Int
 |[],[]=>0|[],_::_=>-1
 |_::_,[]=>1|x::xs,y::ys=>if c x y≠0 then c x y else oH c xs ys
def Cmp.list{v11:Type}{c:v11->v11->Int}(h:Cmp c):Cmp (oH c) where
 val:=by
  intro x;induction x with
  |nil=>intro y;cases y<;>simp[oH]|cons a x ih=>intro y;rcases y with _|⟨b,y⟩;simp[oH];simp only[oH];split;exact h.val a b;exact ih y
 anti:=by
  intro x;induction x with
  |nil=>intro y;cases y<;>simp[oH]|cons a x ih=>
   intro y;rcases y with _|⟨b,y⟩;simp[oH];simp only[oH];have a1:=h.anti a b;have a2:=ih y;by_cases e:c a b=0;have:c b a=0:=by omega
   simp[e,this,a2];have:¬ c b a=0:=by omega
   simp[e,this,a1]
 trans:=by
  intro x;induction x with
  |nil=>intro y z h1 h2;cases z<;>simp[oH]|cons a x ih=>
   intro y z h1 h2;rcases y with _|⟨b,y⟩;simp[oH]at h1;rcases z with _|⟨d,z⟩;simp[oH]at h2;simp only[oH]at*;by_cases e:c a b=0;have e2:=h.congr e d;simp only[e,ne_eq,not_true,if_false]at h1;rw[e2];by_cases e3:c b d=0;simp only[e3,ne_eq,not_true,if_false]at h2 ⊢;exact ih y z h1 h2;simp only[e3,ne_eq,not_false_eq_true,if_true]at h2 ⊢;exact h2;simp only[e,ne_eq,not_false_eq_true,if_true]at h1;have xU:c a b<0:=by omega
   by_cases e3:c b d=0;have e4:=h.congr' e3 a;rw[<-e4];simp only[e,ne_eq,not_false_eq_true,if_true];exact h1;simp only[e3,ne_eq,not_false_eq_true,if_true]at h2;have:=h.lt_of xU h2;have d5:¬ c a d=0:=by omega
   simp only[d5,ne_eq,not_false_eq_true,if_true];omega
def rz{v11:Type}{c:v11->v11->Int}:∀{xs ys:I v11},(∀x∈xs,∀y,c x y=0->x=y)->oH c xs ys=0->xs=ys
 |[],[],_,_=>rfl|[],_::_,_,h=>by simp[oH]at h
 |_::_,[],_,h=>by simp[oH]at h
 |x::xs,y::ys,hc,h=>by simp only[oH]at h;by_cases e:c x y=0;simp only[e,ne_eq,not_true,if_false]at h;rw[hc x (by simp) y e,rz (fun a ha=>hc a (by simp[ha])) h];simp[e]at h
def R0:aK->aK->Int:=GD (fun x y=>pQ x.Feat y.Feat) (fun x y=>pQ x.To y.To)
def Em:Cmp R0:=(Gx.pull _).lex (Gx.pull _)
def z7d{x y:aK}(h:R0 x y=0):x=y:=by simp only[R0,a_,Qj]at h;cases x;cases y;simp only at h;obtain⟨rfl,rfl⟩:=h;rfl
def W0:aM->aM->Int:=GD (GD (fun x y=>pQ x.Typex y.Typex) (fun x y=>pQ x.Arcs.length y.Arcs.length)) (fun x y=>oH R0 x.Arcs y.Arcs)
def Ej:Cmp W0:=((Gx.pull _).lex (Gx.pull (fun x:aM=>(x.Arcs.length:Int)))).lex (Em.list.pull _)
def z7e{x y:aM}(h:W0 x y=0):x=y:=by simp only[W0,a_,Qj]at h;have:=rz (fun a _ b h=>z7d h) h.2;cases x;cases y;simp only at h this;obtain⟨⟨rfl,_⟩,_⟩:=h;subst this;rfl
def El:GFS->GFS->Int:=GD (fun x y=>pQ x.Nodes.length y.Nodes.length) (fun x y=>oH W0 x.Nodes y.Nodes)
def Ek:Cmp El:=(Gx.pull (fun x:GFS=>(x.Nodes.length:Int))).lex (Ej.list.pull _)
def jw{x y:GFS}:El x y=0↔x=y:=⟨fun h=>by
 simp only[El,a_,Qj]at h;have:=rz (fun a _ b h=>z7e h) h.2;cases x;cases y;simp only at this;subst this;rfl,fun h=>by subst h;exact Ek.self x⟩
structure c8(f:GFS)(k:Nat):Prop where
 nodes:f.Nodes.length<=k
 arcs:∀x∈f.Nodes,x.Arcs.length<=k
def LV(l:I aK):I Int:=l.flatMap fun a=>[a.Feat,a.To]
def SD(x:aM):I Int:=[x.Typex,(x.Arcs.length:Int)]++LV x.Arcs
def HY(f:GFS):I Int:=(f.Nodes.length:Int)::f.Nodes.flatMap SD
def oj:∀l:I aK,(LV l).length=2*l.length
 |[]=>rfl|a::l=>by have:=oj l;simp only[LV,List.flatMap_cons,zU,zO,zS]at*;omega
def z51{x:aM}{i:Int}{rc:Int->I Int->V (I Int)}(hx:x.Arcs.length<=1000000):∀(m k:Nat)(b7:I Int),x.Arcs.length-k<m->k<=x.Arcs.length->b7.length+2*(x.Arcs.length-k)<=1000000000->
  Jk i rc x m k b7=rc (IntKind.i64.wrap (i+1)) (b7++LV (x.Arcs.drop k))
 |0,k,b7,hm,_,_=>by omega
 |m+1,k,b7,hm,hk,ha=>by
  unfold Jk;by_cases aE:k<x.Arcs.length;obtain⟨a,h1,_⟩:=eI aE;have hn:(b7.length+2)*8<=140737488355328/\b7.length+2<=140737488355328:=by omega
  simp only[gS aE,zC,cH,h1,aP,aF,hn,and_self,if_true,iG aE (show x.Arcs.length<=9223372036854775807 by omega)];rw[z51 hx m (k+1) _ (by omega) (by omega) (by simp only[zU,zO,zS];omega),aX h1];simp[LV];simp only[hZ aE,zD,sy,bV aE,LV,List.flatMap_nil,List.append_nil]
def z4z{f:GFS}{n:Nat}(hf:c8 f 1000)(hn:1001<=n):∀(m i:Nat)(b7:I Int),f.Nodes.length-i<m->i<=f.Nodes.length->b7.length+2002*(f.Nodes.length-i)<=900000000->
  PQ f n m i b7=some (b7++(f.Nodes.drop i).flatMap SD)
 |0,i,b7,hm,_,_=>by omega
 |m+1,i,b7,hm,hi,ha=>by
  unfold PQ;have hl:=hf.nodes;by_cases aE:i<f.Nodes.length;obtain⟨x,hx,gU⟩:=eI aE;have h2:=hf.arcs x gU;have hn:(b7.length+2)*8<=140737488355328/\b7.length+2<=140737488355328:=by omega
  have h0:=z51 (i:=(i:Int)) (rc:=PQ f n m) (x:=x) (by omega) n 0 (b7++[x.Typex,(x.Arcs.length:Int)]) (by omega) (by omega) (by simp only[zU,zO,zS];omega);rw[zV,List.drop_zero]at h0;simp only[gS aE,zC,cH,hx,aP,aF,hn,and_self,if_true,h0,iG aE (show f.Nodes.length<=9223372036854775807 by omega)];rw[z4z hf (by omega) m (i+1) _ (by omega) (by omega) (by simp only[zU,zO,zS,oj];omega),aX hx];simp[SD];simp only[hZ aE,zD,pa,bV aE,List.flatMap_nil,List.append_nil]
variable{f:GFS}
variable{n:Nat}
def z54(hf:c8 f 1000)(hn:1001<=n):In n f=some (HY f):=by have hl:=hf.nodes;have:=z4z hf hn n 0 [(f.Nodes.length:Int)] (by omega) (by omega) (by simp only[zO,zS];omega);rw[zV,List.drop_zero]at this;simp only[In,this,HY,List.singleton_append]
def BK:I Int->I Int->Int
 |x::xs,y::ys=>if pQ x y≠0 then pQ x y else BK xs ys|_,_=>0
def qzt{l m:I Int}(hl:l.length<=1000000000):∀(n i:Nat),l.length-i<n->i<=l.length->Jl l m n i=some (BK (l.drop i) (m.drop i))
 |0,i,hn,_=>by omega
 |n+1,i,hn,hi=>by unfold Jl;by_cases h1:i<l.length;obtain⟨x,hx,_⟩:=eI h1;by_cases h2:i<m.length;obtain⟨y,hy,_⟩:=eI h2;simp only[gS h1,gS h2,zC,aP,cH,hx,hy,iG h1 (show l.length<=9223372036854775807 by omega),aX hx,aX hy,BK,pQ];by_cases h3:x<y;simp[h3];by_cases h4:y<x;simp[h3,h4];simp only[h3,h4,yB,zD,if_false,ne_eq,not_true,gt_iff_lt];exact qzt hl n (i+1) (by omega) (by omega);simp only[gS h1,hZ h2,zC,zD,aP,Tu,aX hx,bV h2,BK];simp only[hZ h1,zD,aP,Tu,bV h1,BK]
def z8e{k:Nat}(hf:c8 f k):(HY f).length<=1+f.Nodes.length*(2+2*k):=by
 have:∀l:I aM,(∀x∈l,x.Arcs.length<=k)->(l.flatMap SD).length<=l.length*(2+2*k):=by
  intro l;induction l with
  |nil=>intro _;simp|cons x l ih=>
   intro h;have h1:=ih fun y hy=>h y (List.mem_cons_of_mem _ hy);have h2:=h x (by simp);have h3:(l.length+1)*(2+2*k)=l.length*(2+2*k)+(2+2*k):=by rw[Nat.add_mul,Nat.one_mul]
   simp only[List.flatMap_cons,zU,SD,zO,zS,oj];rw[h3];omega
 have:=this f.Nodes hf.arcs;simp only[HY,zO];omega
def z5l{g:GFS}(hf:c8 f 1000)(hg:c8 g 1000)(hn:3000000<=n):Sh n f g=some (BK (HY f) (HY g)):=by have h1:=z8e hf;have h2:=hf.nodes;have h3:f.Nodes.length*(2+2*1000)<=1000*(2+2*1000):=Nat.mul_le_mul_right _ h2;have:=qzt (l:=HY f) (m:=HY g) (by omega) n 0 (by omega) (by omega);rw[zV,List.drop_zero,List.drop_zero]at this;simp only[Sh,z54 hf (show 1001<=n by omega),z54 hg (show 1001<=n by omega),aP,this]
def qvo{c d:I Int}:∀{xs ys:I aK},xs.length=ys.length->BK (LV xs++c) (LV ys++d)=if oH R0 xs ys≠0 then oH R0 xs ys else BK c d
 |[],[],_=>by simp[LV,oH]
 |[],_::_,h=>by simp at h
 |_::_,[],h=>by simp at h
 |x::xs,y::ys,h=>by simp only[zO,Nat.add_right_cancel_iff]at h;have ih:=qvo (c:=c) (d:=d) h;simp only[LV,List.flatMap_cons,List.cons_append,List.nil_append,BK,oH]at ih ⊢;rw[ih];unfold R0 GD;by_cases e:pQ x.Feat y.Feat=0;by_cases e2:pQ x.To y.To=0<;>simp[e,e2];simp[e]
def qrr{c d:I Int}:∀{xs ys:I aM},xs.length=ys.length->BK (xs.flatMap SD++c) (ys.flatMap SD++d)=if oH W0 xs ys≠0 then oH W0 xs ys else BK c d
 |[],[],_=>by simp[oH]
 |[],_::_,h=>by simp at h
 |_::_,[],h=>by simp at h
 |x::xs,y::ys,h=>by
  simp only[zO,Nat.add_right_cancel_iff]at h;have ih:=qrr (c:=c) (d:=d) h;simp only[List.flatMap_cons,SD,zT,List.cons_append,List.nil_append,BK,oH];have hN:W0 x y=(if(if pQ x.Typex y.Typex≠0 then pQ x.Typex y.Typex else pQ (x.Arcs.length:Int) y.Arcs.length)≠0 then(if pQ x.Typex y.Typex≠0 then pQ x.Typex y.Typex else pQ (x.Arcs.length:Int) y.Arcs.length)else oH R0 x.Arcs y.Arcs):=rfl;simp only[hN];by_cases e:pQ x.Typex y.Typex=0;by_cases e2:pQ (x.Arcs.length:Int) y.Arcs.length=0;have hl:x.Arcs.length=y.Arcs.length:=by have:=Qj.1 e2;omega
  simp only[e,e2,ne_eq,not_true,if_false];rw[qvo hl,ih];by_cases e3:oH R0 x.Arcs y.Arcs=0<;>simp[e3];simp[e,e2];simp[e]
def zb7(f g:GFS):BK (HY f) (HY g)=El f g:=by
 simp only[HY,BK,El];unfold GD;by_cases e:pQ (f.Nodes.length:Int) g.Nodes.length=0;have hl:f.Nodes.length=g.Nodes.length:=by have:=Qj.1 e;omega
 have:=qrr (c:=[]) (d:=[]) hl;simp only[List.append_nil,BK]at this;simp only[e,ne_eq,not_true,if_false,this];by_cases e2:oH W0 f.Nodes g.Nodes=0<;>simp[e2];simp[e]
def jo{g:GFS}(hf:c8 f 1000)(hg:c8 g 1000)(hn:3000000<=n):EX n f g=some (El f g==0):=by simp only[EX,z5l hf hg hn,aP,zb7]
def qz2{f:GFS}(hl:f.Nodes.length<=12):∀(m i:Nat),f.Nodes.length-i<m->i<=f.Nodes.length->∃b,Iz f m i=some b/\(b=true->∀x∈f.Nodes.drop i,x.Arcs.length<=12)
 |0,i,hm,_=>by omega
 |m+1,i,hm,hi=>by unfold Iz;by_cases aE:i<f.Nodes.length;obtain⟨x,hx,_⟩:=eI aE;simp only[gS aE,zC,cH,hx,aP,iG aE (show f.Nodes.length<=9223372036854775807 by omega)];by_cases h:(x.Arcs.length:Int)>12;simp only[h,yC,zC];exact⟨false,rfl,fun h=>by cases h⟩;simp only[h,yB,zD];obtain⟨b,h1,h2⟩:=qz2 hl m (i+1) (by omega) (by omega);refine⟨b,h1,fun hb=>?_⟩;rw[aX hx];intro y hy;rcases zI.1 hy with rfl |hy;omega;exact h2 hb y hy;simp only[hZ aE,zD,mq,bV aE];exact⟨true,rfl,fun _ x hx=>by cases hx⟩
def z83(f:GFS)(hn:20<=n):∃b,Rd n f=some b/\(b=true->c8 f 12):=by unfold Rd;by_cases h:(f.Nodes.length:Int)>12;simp only[h,yC,zC];exact⟨false,rfl,fun h=>by cases h⟩;simp only[h,yB,zD];obtain⟨b,h1,h2⟩:=qz2 (f:=f) (by omega) n 0 (by omega) (by omega);rw[zV]at h1;rw[List.drop_zero]at h2;exact⟨b,h1,fun hb=>⟨by omega,h2 hb⟩⟩
def c8.up{k k':Nat}(h:c8 f k)(hk:k<=k'):c8 f k':=⟨by have:=h.nodes;omega,fun x hx=>by have:=h.arcs x hx;omega⟩
def cF(a b:aK):Int:=pQ a.Feat b.Feat
def qm:Cmp cF:=Gx.pull aK.Feat
def xE(l:I aK):I aK:=srt (ltOf cF) l
def OW(l:I aK):(xE l).Perm l:=z02 _ l
def mA(l:I aK):Prop:=l.Pairwise (fun a b=>a.Feat≠b.Feat)
variable{l:I aK}
def mA.perm{m:I aK}(h:l.Perm m)(hd:mA l):mA m:=(h.pairwise_iff (fun{a b} h=>Ne.symm h)).1 hd
def mA.eq:∀{l:I aK},mA l->∀x∈l,∀y∈l,x.Feat=y.Feat->x=y
 |[],_,x,hx,_,_,_=>by cases hx
 |a::l,h,x,hx,y,hy,e=>by obtain⟨h1,h2⟩:=List.pairwise_cons.1 h;rcases zI.1 hx with e1 |hx';rcases zI.1 hy with e2 |FK;rw[e1,e2];subst e1;exact absurd e (h1 y FK);rcases zI.1 hy with e2 |FK;subst e2;exact absurd e.symm (h1 x hx');exact mA.eq h2 x hx' y FK e
def kY(l:I aK):Prop:=l.Pairwise (fun a b=>a.Feat<b.Feat)
def qn{a b:aK}:cF a b<=0↔a.Feat<=b.Feat:=by unfold cF pQ;by_cases h1:a.Feat<b.Feat;simp[h1];omega;by_cases h2:b.Feat<a.Feat;simp[h1,h2];simp[h1,h2];omega
def YG(h:mA l):kY (xE l):=by have h1:=XS qm l;have h2:mA (xE l):=h.perm (OW l).symm;refine(List.Pairwise.and h1 h2).imp fun{a b} h=>?_;have:=qn.1 h.1;have:=h.2;omega
def iv:∀{a b:I aK},kY a->kY b->a.Perm b->a=b
 |[],b,_,_,h=>(List.nil_perm.1 h).symm|x::a,[],_,_,h=>by have:=h.length_eq;simp at this
 |x::a,y::b,ha,hb,h=>by
  obtain⟨h1,h2⟩:=List.pairwise_cons.1 ha;obtain⟨h3,h4⟩:=List.pairwise_cons.1 hb;have DC:x=y:=by rcases zI.1 (h.mem_iff.1 (List.mem_cons_self))with hx |hx;exact hx;rcases zI.1 (h.mem_iff.2 (List.mem_cons_self))with hy |hy;exact hy.symm;have h5:=h1 y hy;have h6:=h3 x hx;omega
  subst DC;rw[iv h2 h4 (h.cons_inv)]
def z69{m:I aK}(hd:mA l)(h:m.Perm l)(hm:kY m):xE l=m:=iv (YG hd) hm ((OW l).trans h.symm)
def kY.dis(h:kY l):mA l:=h.imp fun{a b} h=>by omega
structure NOk(x:aM)(N:Nat):Prop where
 ty:0<=x.Typex
 dis:mA x.Arcs
 arc:∀a∈x.Arcs,0<=a.Feat/\0<=a.To/\a.To<N
def u7(f:GFS):Prop:=∀x∈f.Nodes,NOk x f.Nodes.length
def nd(f:GFS)(v:Int):aM:=(f.Nodes[v.toNat]?).getD (aM.mk 0 [])
def oR(f:GFS)(v:Int):Prop:=0<=v/\v<f.Nodes.length
variable{f:GFS}
variable{v:Int}
def SE(h:oR f v):aB f.Nodes v=some (nd f v)/\nd f v∈f.Nodes:=by
 have hv:v.toNat<f.Nodes.length:=by have:=h.1;have:=h.2;omega
 have h1:0<=v/\v<(f.Nodes.length:Int):=h;simp[aB,h1,nd,hv]
def mF(f:GFS)(v:Int):I aK:=xE (nd f v).Arcs
def yI{a:aK}:a∈mF f v↔a∈(nd f v).Arcs:=(OW _).mem_iff
def lD(g:I Int->Int->I Int)(o:I Int)(a:aK):I Int:=if a.To∈o then o else g o a.To
def dfs(f:GFS):Nat->I Int->Int->I Int
 |0,o,_=>o|k+1,o,v=>(mF f v).foldl (lD (dfs f k)) (o++[v])
structure Seen(f:GFS)(o:I Int):Prop where
 nd:o.Nodup
 ing:∀v∈o,oR f v
def Rp:∀(N:Nat){o:I Int},o.Nodup->(∀v∈o,0<=v/\v<N)->o.length<=N
 |0,o,_,h=>by rcases o with _|⟨v,o⟩;simp;have:=h v (by simp);omega
 |N+1,o,hn,h=>by
  have h1:=Rp N (o:=o.filter (fun v=>v != (N:Int))) (hn.filter _) fun v hv=>by rw[List.mem_filter]at hv;have:=h v hv.1;have h2:=hv.2;simp at h2;omega
  have h2:o.length<=(o.filter (fun v=>v != (N:Int))).length+1:=by
   clear h1 h;induction o with
   |nil=>simp|cons x o ih=>
    obtain⟨h3,h4⟩:=List.nodup_cons.1 hn;have:=ih h4;by_cases e:x=N;subst e;have:o.filter (fun v=>v != (N:Int))=o:=List.filter_eq_self.2 fun v hv=>by simp only[bne_iff_ne,ne_eq];intro e;subst e;exact h3 hv
    simp[this];have e2:(x != (N:Int))=true:=by simpa using e
    rw[List.filter_cons_of_pos (by simpa using e)];simp only[zO];omega
  omega
variable{o:I Int}
def Seen.len(h:Seen f o):o.length<=f.Nodes.length:=Rp _ h.nd h.ing
def Seen.snoc(h:Seen f o)(hv:oR f v)(hn:v ∉ o):Seen f (o++[v]):=⟨by
 rw[List.nodup_append];refine⟨h.nd,by simp,?_⟩;intro a ha b hb;simp at hb;subst hb;intro e;subst e;exact hn ha,fun u hu=>by
 rcases yD.1 hu with hu |hu;exact h.ing u hu;simp at hu;subst hu;exact hv⟩
def Oo{f:GFS}(hg:u7 f):∀(k:Nat)(o:I Int)(v:Int),Seen f o->oR f v->v ∉ o->f.Nodes.length-o.length<=k->
  Seen f (dfs f k o v)/\(∃t,dfs f k o v=o++v::t)/\(∀u∈dfs f k o v,u ∉ o->∀a∈(nd f u).Arcs,a.To∈dfs f k o v)/\(∀k',f.Nodes.length-o.length<=k'->dfs f k' o v=dfs f k o v)
 |0,o,v,hs,hv,hn,hk=>by have h1:=(hs.snoc hv hn).len;simp only[zU,zO,zS]at h1;omega
 |k+1,o,v,hs,hv,hn,hk=>by
  have nA:=hs.snoc hv hn;have CC:=nA.len;simp only[zU,zO,zS]at CC;have key:∀(l:I aK),(∀a∈l,oR f a.To)->∀(p:I Int),Seen f p->(∃t,p=o++v::t)->(∀u∈p,u ∉ o->u≠v->∀a∈(nd f u).Arcs,a.To∈p)->
    Seen f (l.foldl (lD (dfs f k)) p)/\(∃t,l.foldl (lD (dfs f k)) p=p++t)/\(∀u∈l.foldl (lD (dfs f k)) p,u ∉ o->u≠v->∀a∈(nd f u).Arcs,a.To∈l.foldl (lD (dfs f k)) p)/\(∀a∈l,a.To∈l.foldl (lD (dfs f k)) p)/\
     (∀k',f.Nodes.length-(o.length+1)<=k'->l.foldl (lD (dfs f k')) p=l.foldl (lD (dfs f k)) p):=by
   intro l;induction l with
   |nil=>intro _ p hp pW eS;exact⟨hp,⟨[],by simp⟩,eS,⟨fun a ha=>(List.not_mem_nil ha).elim,fun _ _=>rfl⟩⟩|cons a l ih=>
    intro hl p hp pW eS;have CB:=hl a (by simp);have B4:=fun b hb=>hl b (List.mem_cons_of_mem a hb);simp only[List.foldl_cons];by_cases hm:a.To∈p;have e:∀k',lD (dfs f k') p a=p:=fun k'=>by simp[lD,hm]
    simp only[e];obtain⟨g1,⟨t,g2⟩,g3,g4,g5⟩:=ih B4 p hp pW eS;refine⟨g1,⟨t,g2⟩,g3,fun b hb=>?_,g5⟩;rcases zI.1 hb with rfl |hb;rw[g2];exact List.mem_append_left _ hm;exact g4 b hb;have e:∀k',lD (dfs f k') p a=dfs f k' p a.To:=fun k'=>by simp[lD,hm]
    obtain⟨t0,pW⟩:=pW;have nO:o.length+1<=p.length:=by rw[pW];simp
    obtain⟨d1,⟨t1,d2⟩,d3,d4⟩:=Oo hg k p a.To hp CB hm (by omega);have jC:∀u∈p,u∈dfs f k p a.To:=fun u hu=>by rw[d2];exact List.mem_append_left _ hu
    obtain⟨g1,⟨t,g2⟩,g3,g4,g5⟩:=ih B4 (dfs f k p a.To) d1 ⟨t0++a.To::t1,by rw[d2,pW];simp⟩ (fun u hu h1 h2 b hb=>by by_cases yO:u∈p;exact jC _ (eS u yO h1 h2 b hb);exact d3 u hu yO b hb);rw[e k];refine⟨g1,⟨a.To::t1++t,by rw[g2,d2];simp⟩,g3,fun b hb=>?_,fun k' sK=>?_⟩;rcases zI.1 hb with rfl |hb;rw[g2,d2];simp;exact g4 b hb;rw[e k',d4 k' (by omega)];exact g5 k' sK
  have CB:∀a∈mF f v,oR f a.To:=fun a ha=>by have h1:=(hg _ (SE hv).2).arc a (yI.1 ha);exact⟨h1.2.1,h1.2.2⟩
  obtain⟨g1,⟨t,g2⟩,g3,g4,g5⟩:=key (mF f v) CB (o++[v]) nA ⟨[],rfl⟩ (fun u hu h1 h2=>by rcases yD.1 hu with hu |hu;exact absurd hu h1;simp at hu;exact absurd hu h2);refine⟨g1,⟨t,by show(mF f v).foldl _ _=_;rw[g2];simp⟩,fun u hu h1 a ha=>?_,fun k' sK=>?_⟩;by_cases e:u=v;subst e;exact g4 a (yI.2 ha);exact g3 u hu h1 e a ha;cases k' with
  |zero=>omega|succ k'=>exact g5 k' (by omega)
def pP(f:GFS)(r:Int):I Int:=dfs f f.Nodes.length [] r
def Seen.nil(f:GFS):Seen f []:=⟨List.nodup_nil,fun v hv=>by cases hv⟩
structure W5(f:GFS)(r:Int)(o:I Int):Prop where
 seen:Seen f o
 head:∃t,o=r::t
 clo:∀u∈o,∀a∈(nd f u).Arcs,a.To∈o
def H3(hg:u7 f){r:Int}(hr:oR f r):W5 f r (pP f r)/\∀k,f.Nodes.length<=k->dfs f k [] r=pP f r:=by obtain⟨h1,⟨t,h2⟩,h3,h4⟩:=Oo hg f.Nodes.length [] r (Seen.nil f) hr (by simp) (by simp);exact⟨⟨h1,⟨t,by have h5:=h2;rw[List.nil_append]at h5;exact h5⟩,fun u hu=>h3 u hu (by simp)⟩,fun k hk=>h4 k (by simpa using hk)⟩
def mG(o:I Int)(a:aK):aK:=⟨a.Feat,(o.idxOf a.To:Int)⟩
def j9(f:GFS)(o:I Int)(v:Int):aM:=⟨(nd f v).Typex,(mF f v).map (mG o)⟩
def fX(f:GFS)(r:Int):GFS:=⟨(pP f r).map (j9 f (pP f r))⟩
structure Rep(w:kG Int Int)(o:I Int):Prop where
 inv:MInv w
 get:∀x,vM x w.es=if x∈o then some (o.idxOf x:Int)else none
def qo(a b:Int):(a==b)=true↔a=b:=by simp
def Rep.nil:Rep (GC:kG Int Int) []:=⟨⟨by simp[GC],by simp[GC],by simp[GC]⟩,fun x=>by simp[GC,vM]⟩
def Rep.snoc{w:kG Int Int}(h:Rep w o)(hv:v ∉ o):Rep (D4 (fun a b=>a==b) w v (o.length:Int)) (o++[v]):=by obtain⟨h1,h2⟩:=WT (eq:=fun a b:Int=>a==b) qo h.inv v (o.length:Int);refine⟨h1,fun x=>?_⟩;rw[h2,h.get];by_cases e:x=v;subst e;simp[List.idxOf_append,hv];by_cases hx:x∈o;simp[e,hx,List.idxOf_append];simp[e,hx]
def Rep.mget{w:kG Int Int}(h:Rep w o)(x:Int):I0 (fun a b=>a==b) w x=if x∈o then some (o.idxOf x:Int)else none:=by rw[z87 (eq:=fun a b:Int=>a==b) qo,h.get]
def zas{v11:Type}(a b:I v11)(x y:v11):(a++x::b).set a.length y=a++y::b:=by simp
def E5(N:Nat)(seen:I Int):I aK->Int
 |[]=>0|a::l=>if a.Feat<0\/a.To<0\/a.To>=(N:Int)then 2 else if a.Feat∈seen then 4 else E5 N (a.Feat::seen) l
def G0(N:Nat)(x:aM):Int:=if x.Typex<0 then 2 else E5 N [] x.Arcs
def qv5{N:Nat}:∀{l:I aK}{seen:I Int},E5 N seen l=0↔(∀a∈l,0<=a.Feat/\0<=a.To/\a.To<N)/\mA l/\∀a∈l,a.Feat ∉ seen
 |[],seen=>by simp[E5,mA]
 |a::l,seen=>by
  simp only[E5];by_cases h1:a.Feat<0\/a.To<0\/a.To>=(N:Int);simp only[h1,if_true];refine⟨fun h=>absurd h (by decide),fun h=>?_⟩;have:=h.1 a (by simp);omega;by_cases h2:a.Feat∈seen;simp only[h1,h2,if_true,if_false];exact⟨fun h=>absurd h (by decide),fun h=>absurd h2 (h.2.2 a (by simp))⟩;simp only[h1,h2,if_false];rw[qv5 (l:=l)];unfold mA;rw[List.pairwise_cons];constructor;rintro⟨g1,g2,g3⟩;refine⟨fun b hb=>?_,⟨fun b hb=>?_,g2⟩,fun b hb=>?_⟩;rcases zI.1 hb with rfl |hb;omega;exact g1 b hb;have:=g3 b hb;simp only[zI,not_or]at this;exact fun e=>this.1 e.symm
  rcases zI.1 hb with rfl |hb;exact h2;have:=g3 b hb;simp only[zI,not_or]at this;exact this.2;rintro⟨g1,⟨g2,g3⟩,g4⟩;refine⟨fun b hb=>g1 b (by simp[hb]),g3,fun b hb=>?_⟩;simp only[zI,not_or];exact⟨fun e=>g2 b hb e.symm,g4 b (by simp[hb])⟩
def qv8{N:Nat}{x:aM}:G0 N x=0↔NOk x N:=by unfold G0;by_cases h:x.Typex<0;simp only[h,if_true];exact⟨fun h=>absurd h (by decide),fun h'=>by have:=h'.ty;omega⟩;simp only[h,if_false];rw[qv5];exact⟨fun⟨h1,h2,_⟩=>⟨by omega,h2,h1⟩,fun h=>⟨h.arc,h.dis,fun _ _=>by simp⟩⟩
def R7(N:Nat):I aM->Int
 |[]=>0|x::l=>if G0 N x≠0 then G0 N x else R7 N l
def qv7{N:Nat}:∀{l:I aM},R7 N l=0↔∀x∈l,NOk x N
 |[]=>by simp[R7]
 |x::l=>by simp only[R7];by_cases h:G0 N x=0;simp only[h,ne_eq,not_true,if_false,qv7 (l:=l),zI,forall_eq_or_imp,qv8.1 h,true_and];simp only[h,ne_eq,not_false_eq_true,if_true,zI,forall_eq_or_imp,false_iff,not_and];exact fun h2=>absurd (qv8.2 h2) h
def I3(f:GFS):Int:=if f.Nodes.length=0 then 1 else if f.Nodes.length>4096 then 7 else R7 f.Nodes.length f.Nodes
variable{f:GFS}
def qv6:I3 f=0↔f.Nodes.length≠0/\f.Nodes.length<=4096/\u7 f:=by unfold I3;by_cases h0:f.Nodes.length=0;simp[h0];by_cases h1:f.Nodes.length>4096;simp[h0,h1];intro _;omega;simp only[h0,h1,if_false,qv7];exact⟨fun h=>⟨by simpa using h0,by omega,h⟩,fun h=>h.2.2⟩
structure rR(f g:GFS)(Z:Int->Int)(S:Int->Prop):Prop where
 clo:∀v,S v->∀a∈mF f v,S a.To
 inj:∀u v,S u->S v->Z u=Z v->u=v
 ty:∀v,S v->(nd g (Z v)).Typex=(nd f v).Typex
 arc:∀v,S v->mF g (Z v)=(mF f v).map fun a=>⟨a.Feat,Z a.To⟩
def rR.dfs{f g:GFS}{Z:Int->Int}{S:Int->Prop}(h:rR f g Z S):∀(k:Nat)(o:I Int)(v:Int),S v->(∀u∈o,S u)->dfs g k (o.map Z) (Z v)=(Go.Proofs.dfs f k o v).map Z/\∀u∈Go.Proofs.dfs f k o v,S u
 |0,o,v,hv,ho=>⟨rfl,ho⟩|k+1,o,v,hv,ho=>by
  have key:∀(l:I aK)(p:I Int),(∀a∈l,S a.To)->(∀u∈p,S u)->
    (l.map fun a=>(⟨a.Feat,Z a.To⟩:aK)).foldl (lD (Go.Proofs.dfs g k)) (p.map Z)=(l.foldl (lD (Go.Proofs.dfs f k)) p).map Z/\∀u∈l.foldl (lD (Go.Proofs.dfs f k)) p,S u:=by
   intro l;induction l with
   |nil=>intro p _ hp;exact⟨rfl,hp⟩|cons a l ih=>
    intro p hl hp;have CB:=hl a (by simp);simp only[zQ,List.foldl_cons];have hm:Z a.To∈p.map Z↔a.To∈p:=by rw[List.mem_map];exact⟨fun⟨u,hu,e⟩=>by rw[<-h.inj u a.To (hp u hu) CB e];exact hu,fun hu=>⟨_,hu,rfl⟩⟩
    by_cases jD:a.To∈p;have e1:lD (Go.Proofs.dfs g k) (p.map Z) (⟨a.Feat,Z a.To⟩:aK)=p.map Z:=by simp only[lD,hm.2 jD,if_true]
    have e2:lD (Go.Proofs.dfs f k) p a=p:=by simp only[lD,jD,if_true]
    rw[e1,e2];exact ih p (fun b hb=>hl b (List.mem_cons_of_mem _ hb)) hp;have e1:lD (Go.Proofs.dfs g k) (p.map Z) (⟨a.Feat,Z a.To⟩:aK)=Go.Proofs.dfs g k (p.map Z) (Z a.To):=by simp only[lD,mt hm.1 jD,if_false]
    have e2:lD (Go.Proofs.dfs f k) p a=Go.Proofs.dfs f k p a.To:=by simp only[lD,jD,if_false]
    obtain⟨g1,g2⟩:=rR.dfs h k p a.To CB hp;rw[e1,e2,g1];exact ih _ (fun b hb=>hl b (List.mem_cons_of_mem _ hb)) g2
  have ho1:∀u∈o++[v],S u:=fun u hu=>by rcases yD.1 hu with hu |hu;exact ho u hu;simp at hu;subst hu;exact hv
  have:=key (mF f v) (o++[v]) (h.clo v hv) ho1;refine⟨?_,this.2⟩;show(mF g (Z v)).foldl _ (o.map Z++[Z v])=_;have e:=this.1;simp only[List.map_append,zQ,List.map_nil]at e;rw[h.arc v hv];exact e
def qvi{Z:Int->Int}:∀{o:I Int}{x:Int},(∀u∈o,Z u=Z x->u=x)->(o.map Z).idxOf (Z x)=o.idxOf x
 |[],x,_=>rfl|u::o,x,h=>by
  simp only[zQ,List.idxOf_cons];have ih:=qvi (o:=o) (x:=x) fun w hw=>h w (List.mem_cons_of_mem _ hw);by_cases e:u=x;subst e;simp;have e2:¬ Z u=Z x:=fun h2=>e (h u (by simp) h2);have e3:(u==x)=false:=by simpa using e
  have e4:(Z u==Z x)=false:=by simpa using e2
  simp only[e3,e4,zD,ih]
variable{r:Int}
def rR.canon{g:GFS}{Z:Int->Int}{S:Int->Prop}(h:rR f g Z S)(hf:u7 f)(hg:u7 g)(hr:oR f r)(hS:S r)(hr':oR g (Z r)):pP g (Z r)=(pP f r).map Z/\fX g (Z r)=fX f r:=by obtain⟨o1,s1⟩:=H3 hf hr;obtain⟨o2,s2⟩:=H3 hg hr';have h1:=h.dfs (f.Nodes.length+g.Nodes.length) [] r hS (by simp);rw[List.map_nil,s1 _ (by omega),s2 _ (by omega)]at h1;refine⟨h1.1,?_⟩;unfold fX;rw[h1.1,List.map_map];congr 1;refine List.map_congr_left fun v hv=>?_;have hSv:=h1.2 v hv;simp only[Function.comp,j9,h.ty v hSv,h.arc v hSv,List.map_map];congr 1;refine List.map_congr_left fun a ha=>?_;have hSa:=h.clo v hSv a ha;simp only[Function.comp,mG];rw[qvi fun u hu e=>h.inj u a.To (h1.2 u hu) hSa e]
def z68{l:I aK}(h:kY l):xE l=l:=z69 h.dis (List.Perm.refl _) h
def c_{o:I Int}{v:Int}(h:v∈o):o[o.idxOf v]? = some v:=by have h1:=List.idxOf_lt_length_of_mem h;rw[List.getElem?_eq_getElem h1,List.getElem_idxOf]
structure zm(f:GFS)(r:Int)(c:GFS):Prop where
 len:c.Nodes.length=(pP f r).length
 le:c.Nodes.length<=f.Nodes.length
 pos:0<c.Nodes.length
 ok:u7 c
 at_:∀v∈pP f r,nd c ((pP f r).idxOf v:Int)=j9 f (pP f r) v
 up:∀x∈c.Nodes,kY x.Arcs
 sim:rR f c (fun v=>((pP f r).idxOf v:Int)) (fun v=>v∈pP f r)
def WU{o:I Int}{l:I aK}(h:kY l):kY (l.map (mG o)):=by unfold kY at*;rw[List.pairwise_map];exact h
def z2t(hf:u7 f)(hr:oR f r):zm f r (fX f r):=by
 obtain⟨o1,_⟩:=H3 hf hr;have pJ:∀v∈pP f r,nd (fX f r) ((pP f r).idxOf v:Int)=j9 f (pP f r) v:=fun v hv=>by simp only[nd,fX,zZ,List.getElem?_map,c_ hv,zM,Option.getD_some]
 have jD:∀v∈pP f r,oR f v:=o1.seen.ing;have yO:∀v∈pP f r,kY (j9 f (pP f r) v).Arcs:=fun v hv=>WU (YG (hf _ (SE (jD v hv)).2).dis);refine⟨by simp[fX],by simp only[fX,yA];exact o1.seen.len,?_,?_,pJ,?_,?_⟩;obtain⟨t,ht⟩:=o1.head;simp[fX,ht];intro x hx;simp only[fX,List.mem_map]at hx;obtain⟨v,hv,rfl⟩:=hx;have hn:=hf _ (SE (jD v hv)).2;refine⟨hn.ty,(yO v hv).dis,fun a ha=>?_⟩;simp only[j9,List.mem_map]at ha;obtain⟨b,hb,rfl⟩:=ha;have cV:=yI.1 hb;refine⟨(hn.arc b cV).1,by simp only[mG];omega,?_⟩;have:=List.idxOf_lt_length_of_mem (o1.clo v hv b cV);simp only[mG,fX,yA];omega;intro x hx;simp only[fX,List.mem_map]at hx;obtain⟨v,hv,rfl⟩:=hx;exact yO v hv;refine⟨fun v hv a ha=>o1.clo v hv a (yI.1 ha),fun u v hu hv e=>?_,fun v hv=>?_,fun v hv=>?_⟩;have h1:=c_ hu;have h2:=c_ hv;have e':(pP f r).idxOf u=(pP f r).idxOf v:=Int.ofNat.inj e;rw[e',h2]at h1;exact(Option.some.inj h1).symm;simp only[pJ v hv,j9];simp only[mF,pJ v hv];rw[z68 (yO v hv)];rfl
def c8.canon{k:Nat}(hs:c8 f k)(hf:u7 f)(hr:oR f r):c8 (fX f r) k:=by have hc:=z2t hf hr;obtain⟨o1,_⟩:=H3 hf hr;refine⟨Nat.le_trans hc.le hs.nodes,fun x hx=>?_⟩;simp only[fX,List.mem_map]at hx;obtain⟨v,hv,rfl⟩:=hx;simp only[j9,yA,mF];rw[(OW _).length_eq];exact hs.arcs _ (SE (o1.seen.ing v hv)).2
def qrj{N:Nat}:∀{l:I aK}{s s':I Int},(∀x,x∈s↔x∈s')->E5 N s l=E5 N s' l
 |[],s,s',_=>rfl|a::l,s,s',h=>by simp only[E5];rw[qrj (l:=l) (s:=a.Feat::s) (s':=a.Feat::s') fun x=>by simp only[zI,h x]];by_cases h1:a.Feat∈s;simp only[h1,(h _).1 h1,if_true];simp only[h1,mt (h _).2 h1,if_false]
def z2i{l:I aK}(hl:l.length<=1000000){i:Nat}{x:aK}(hx:l[i]? = some x)(hi:i<l.length){rc:Int->V Int}:∀(m k:Nat),i-k<m->k<=i->
  Ip l i rc m k=if x.Feat∈((l.take i).drop k).map aK.Feat then some 4 else rc (IntKind.i64.wrap ((i:Int)+1))
 |0,k,hm,_=>by omega
 |m+1,k,hm,hk=>by
  unfold Ip;by_cases aE:k<i;obtain⟨y,hy,_⟩:=eI (l:=l) (i:=k) (by omega);have FK:(l.take i)[k]? = some y:=by rw[List.getElem?_take_of_lt aE];exact hy
  have hd:decide ((k:Int)<(i:Int))=true:=gS aE;have hw:IntKind.i64.wrap ((k:Int)+1)=((k+1:Nat):Int):=GK (by omega) (by omega);simp only[hd,zC,cH,hy,hx,aP,aX FK,zQ,zI,hw];by_cases e:y.Feat=x.Feat;simp[e];have e2:(y.Feat==x.Feat)=false:=by simpa using e
  have e3:¬ x.Feat=y.Feat:=fun h=>e h.symm;simp only[e2,zD,e3,false_or];exact z2i hl hx hi m (k+1) (by omega) (by omega);have hd:decide ((k:Int)<(i:Int))=false:=hZ aE;have:(l.take i).drop k=[]:=List.drop_eq_nil_of_le (by simp;omega);simp only[hd,zD,yz,this,List.map_nil,List.not_mem_nil,if_false]
def z2h{l:I aK}{N n:Nat}(hl:l.length<=1000000)(hn:l.length<n):∀(m i:Nat),l.length-i<m->i<=l.length->P7 l N n m i=some (E5 N ((l.take i).map aK.Feat) (l.drop i))
 |0,i,hm,_=>by omega
 |m+1,i,hm,hi=>by
  unfold P7;by_cases aE:i<l.length;obtain⟨a,ha,_⟩:=eI aE;have h2:=z2i hl ha aE (rc:=P7 l N n m) n 0 (by omega) (by omega);rw[zV,List.drop_zero]at h2;simp only[gS aE,zC,cH,ha,aP,aX ha,E5];by_cases h1:a.Feat<0;simp[h1,aP];by_cases h3:a.To<0;simp[h1,h3,aP];by_cases h4:a.To>=(N:Int);simp[h1,h3,h4,aP];simp only[h1,h3,h4,yB,zD,aP,or_self,if_false,h2,iG aE (show l.length<=9223372036854775807 by omega)];rw[z2h hl hn m (i+1) (by omega) (by omega),j5 ha];by_cases h5:a.Feat∈(l.take i).map aK.Feat;simp only[h5,if_true];simp only[h5,if_false];congr 1;exact qrj fun x=>by simp[or_comm]
  simp only[hZ aE,zD,ld,bV aE,E5]
def z3l{f:GFS}{k:Nat}(hf:c8 f k)(hk:k<=1000000){n:Nat}(hn:k<n):∀(m i:Nat),f.Nodes.length-i<m->i<=f.Nodes.length->Io f n m i=some (R7 f.Nodes.length (f.Nodes.drop i))
 |0,i,hm,_=>by omega
 |m+1,i,hm,hi=>by
  have vV:=hf.nodes;unfold Io;by_cases aE:i<f.Nodes.length;obtain⟨x,hx,gU⟩:=eI aE;have fA:=hf.arcs x gU;have h2:=z2h (l:=x.Arcs) (N:=f.Nodes.length) (n:=n) (by omega) (by omega) n 0 (by omega) (by omega);rw[zV,List.drop_zero,List.take_zero,List.map_nil]at h2;simp only[gS aE,zC,cH,hx,aP,aX hx,R7,G0,kz,h2,iG aE (show f.Nodes.length<=9223372036854775807 by omega)];by_cases h1:x.Typex<0;simp[h1];simp only[h1,yB,zD,if_false];by_cases h3:E5 f.Nodes.length [] x.Arcs=0;simp only[h3,bne_self_eq_false,zD,ne_eq,not_true,if_false];exact z3l hf hk hn m (i+1) (by omega) (by omega);have hb:(E5 f.Nodes.length [] x.Arcs != 0)=true:=by simpa using h3
  simp only[hb,zC,h3,ne_eq,not_false_eq_true,if_true];simp only[hZ aE,zD,yy,bV aE,R7]
variable{f:GFS}
variable{k:Nat}
variable{n:Nat}
def zbl(hf:c8 f k)(hk:k<=1000000)(hn:k<n):Qp n f=some (I3 f):=by
 have vV:=hf.nodes;unfold Qp I3;by_cases h0:f.Nodes.length=0;simp[h0];have e0:((f.Nodes.length:Int)==0)=false:=by simp;intro h;simp[h]at h0
 simp only[e0,zD,h0,if_false];by_cases h1:f.Nodes.length>4096;have:(f.Nodes.length:Int)>4096:=by omega
 simp[h1,this];have:¬ (f.Nodes.length:Int)>4096:=by omega
 simp only[h1,this,yB,zD,if_false];have h:=z3l hf hk hn n 0 (by omega) (by omega);rw[zV,List.drop_zero]at h;exact h
def za3{l:I aK}{i:Nat}{x:aK}(hx:l[i]? = some x){out:I aK}(xR:out.length<=1000000)(yO:kY out){rc:Int->I aK->V (I aK)}:∀(m p:Nat),p<m->p<=out.length->(∀a∈out.drop p,x.Feat<a.Feat)->
  ∃q,q<=out.length/\Jh l i out rc m p=Ji l i out rc (q:Int)/\(∀a∈out.drop q,x.Feat<a.Feat)/\(∀a∈out.take q,a.Feat<=x.Feat)
 |0,p,hm,_,_=>by omega
 |m+1,p,hm,hp,hd=>by
  unfold Jh;cases p with
  |zero=>
   have:¬ ((0:Nat):Int)>0:=by omega
   simp only[this,yB,zD,aP];exact⟨0,by omega,rfl,hd,by simp⟩
  |succ p=>
   have h0:((p+1:Nat):Int)>0:=by omega
   have hw:IntKind.i64.wrap (((p+1:Nat):Int)-1)=(p:Int):=GK (by omega) (by omega);obtain⟨y,hy,_⟩:=eI (l:=out) (i:=p) (by omega);simp only[h0,yC,zC,hw,cH,hy,hx,aP];by_cases e:y.Feat>x.Feat;simp only[e,yC,zC];refine za3 hx xR yO m p (by omega) (by omega) fun a ha=>?_;rw[aX hy]at ha;rcases zI.1 ha with rfl |ha
   omega;exact hd a ha;simp only[e,yB,zD];refine⟨p+1,hp,rfl,hd,fun a ha=>?_⟩;obtain⟨j,hj,rfl⟩:=List.mem_iff_getElem.1 ha;simp only[List.length_take]at hj;rw[List.getElem_take];obtain⟨FO,ey⟩:=zG.1 hy;by_cases ej:j=p;subst ej;rw[ey];omega;have:=List.pairwise_iff_getElem.1 yO j p (by omega) FO (by omega);rw[ey]at this;omega
def Bg{l:I aK}{i:Nat}{x:aK}(hx:l[i]? = some x){out:I aK}(xR:out.length<=1000000){rc:Int->I aK->V (I aK)}{q:Nat}(hq:q<=out.length):
  Ji l i out rc (q:Int)=rc (IntKind.i64.wrap ((i:Int)+1)) (out.take q++x::out.drop q):=by
 have e1:(out.drop 0).take ((q:Int)).toNat=out.take q:=by rw[List.drop_zero,zZ]
 have e2:(out.drop (0+((q:Int)).toNat)).take (out.length-((q:Int)).toNat)=out.drop q:=by rw[zZ,Nat.zero_add,zW (by simp)]
 have l1:(out.take q).length=q:=by simp;omega
 have n1:(0:Int)<=(q:Int)/\(q:Int)<=((out.length:Nat):Int):=by omega
 have n2:0+((q:Int)).toNat<=out.length:=by rw[zZ];omega
 have n3:(out.take q).length*16<=140737488355328/\(out.take q).length<=140737488355328:=by omega
 have n4:((out.take q).length+1)*16<=140737488355328/\(out.take q).length+1<=140737488355328:=by omega
 have n5:(0+((q:Int)).toNat)+(out.length-((q:Int)).toNat)<=out.length:=by rw[zZ];omega
 have n6:((out.take q++[x]).length+(out.drop q).length)*16<=140737488355328/\(out.take q++[x]).length+(out.drop q).length<=140737488355328:=by simp;omega
 unfold Ji;simp only[aF,e1,e2,cH,hx,aP];rw[if_pos n1,if_pos n2,if_pos n3,if_pos n4,if_pos n1,if_pos n5,if_pos n6];simp
def za2{l:I aK}(hl:l.length<=1000000)(hd:mA l){n:Nat}(hn:l.length<n):∀(m i:Nat),l.length-i<m->i<=l.length->PO l n m i (xE (l.take i))=some (xE l)
 |0,i,hm,_=>by omega
 |m+1,i,hm,hi=>by
  have hdi:mA (l.take i):=hd.sublist (List.take_sublist i l);have xR:(xE (l.take i)).length=i:=by rw[(OW _).length_eq];simp;omega
  unfold PO;by_cases aE:i<l.length;obtain⟨x,hx,_⟩:=eI aE;obtain⟨q,q1,q2,q3,q4⟩:=za3 hx (out:=xE (l.take i)) (by omega) (YG hdi) (rc:=PO l n m) n (xE (l.take i)).length (by omega) (zF _) (by simp);simp only[gS aE,zC,q2,Bg hx (show(xE (l.take i)).length<=1000000 by omega) q1,iG aE (show l.length<=9223372036854775807 by omega)];have Cn:mA (l.take (i+1)):=hd.sublist (List.take_sublist _ l);have Wn:((xE (l.take i)).take q++x::(xE (l.take i)).drop q).Perm (l.take (i+1)):=by rw[j5 hx];refine List.perm_middle.trans ?_;rw[List.take_append_drop];exact((OW (l.take i)).cons x).trans (List.perm_append_comm (l₁:=[x]) (l₂:=l.take i))
  have d5:∀a∈xE (l.take i),a.Feat≠x.Feat:=fun a ha e=>by rw[j5 hx]at Cn;have:=(List.pairwise_append.1 Cn).2.2 a ((OW _).mem_iff.1 ha) x (by simp);exact this e
  have yO:kY ((xE (l.take i)).take q++x::(xE (l.take i)).drop q):=by have h0:=YG hdi;unfold kY at*;rw[List.pairwise_append];refine⟨h0.sublist (List.take_sublist _ _),List.pairwise_cons.2 ⟨q3,h0.sublist (List.drop_sublist _ _)⟩,fun a ha b hb=>?_⟩;have h1:=q4 a ha;have h2:=d5 a (List.mem_of_mem_take ha);rcases zI.1 hb with rfl |hb;omega;have:=q3 b hb;omega
  rw[<-z69 Cn Wn yO];exact za2 hl hd hn m (i+1) (by omega) (by omega);simp only[hZ aE,zD,si];rw[zW (by omega)]
def qo3{l:I aK}(hl:l.length<=1000000)(hd:mA l)(hn:l.length<n):Rv n l=some (xE l):=by have h:=za2 hl hd hn n 0 (by omega) (by omega);rw[zV,List.take_zero]at h;exact h
structure LX(f:GFS)(w:I Int)(o:I Int):Prop where
 len:w.length=f.Nodes.length
 get:∀x,oR f x->aB w x=some (if x∈o then(o.idxOf x:Int)else -1)
def LX.snoc{w o:I Int}(h:LX f w o){v:Int}(hv:oR f v)(hn:v ∉ o):LX f (w.set (0+v.toNat) (o.length:Int)) (o++[v]):=by
 refine⟨by simp[h.len],fun x hx=>?_⟩;have uO:v.toNat<w.length:=by rw[h.len];have:=hv.1;have:=hv.2;omega
 have hc:0<=x/\x<((w.set (0+v.toNat) (o.length:Int)).length:Int):=by rw[List.length_set,h.len];exact hx
 have h2:=h.get x hx;have Cq:0<=x/\x<(w.length:Int):=by rw[h.len];exact hx
 rw[aB,if_pos Cq]at h2;rw[aB,if_pos hc,Nat.zero_add];by_cases e:x=v;subst e;simp[List.idxOf_append,hn,uO];rw[List.getElem?_set_ne (by have:=hx.1;have:=hv.1;omega),h2];by_cases Bl:x∈o;simp[Bl,List.idxOf_append];simp[Bl,e]
def qws{f:GFS}{k:Nat}(hg:u7 f)(hf:c8 f k)(hk:k<=1000000):∀(n:Nat)(o:I Int)(v:Int)(w:I Int),Seen f o->oR f v->v ∉ o->LX f w o->f.Nodes.length-o.length+k+2<=n->
  ∃w',PS n v f.Nodes w o=some (w',dfs f n o v)/\LX f w' (dfs f n o v)
 |0,o,v,w,hs,hv,hn,hw,cq=>by omega
 |n+1,o,v,w,hs,hv,hn,hw,cq=>by
  have nA:=hs.snoc hv hn;have CC:=nA.len;simp only[zU,zO,zS]at CC;obtain⟨hx,gU⟩:=SE hv;have eH:=hg _ gU;have fA:=hf.arcs _ gU;have vV:=hf.nodes;have K4:(mF f v).length=(nd f v).Arcs.length:=(OW _).length_eq;have key:∀(m i:Nat)(p:I Int)(w:I Int),(mF f v).length-i<m->i<=(mF f v).length->Seen f p->o.length+1<=p.length->LX f w p->
    ∃w',TO f.Nodes (mF f v) (PS n) m i w p=some (w',((mF f v).drop i).foldl (lD (dfs f n)) p)/\LX f w' (((mF f v).drop i).foldl (lD (dfs f n)) p):=by
   intro m;induction m with
   |zero=>intro i p w hm;omega|succ m ih=>
    intro i p w hm hi hp nO hw;unfold TO;by_cases aE:i<(mF f v).length;obtain⟨a,ha,tS⟩:=eI aE;have h1:=eH.arc a (yI.1 tS);have hia:oR f a.To:=⟨h1.2.1,h1.2.2⟩;have Ko:IntKind.i64.wrap ((i:Int)+1)=((i+1:Nat):Int):=iG aE (by omega);simp only[gS aE,zC,cH,ha,aP,hw.get _ hia,aX ha,List.foldl_cons];by_cases C9:a.To∈p;have Bx:¬ ((p.idxOf a.To:Nat):Int)<0:=by omega
    simp only[C9,if_true,Bx,yB,zD,Kb,Ko,lD];exact ih (i+1) p w (by omega) (by omega) hp nO hw;have Bx:(-1:Int)<0:=by decide
    simp only[C9,if_false,Bx,yC,zC,Kb,Ko,lD];obtain⟨w1,g1,g2⟩:=qws hg hf hk n p a.To w hp hia C9 hw (by omega);obtain⟨d1,⟨t,d2⟩,_,_⟩:=Oo hg n p a.To hp hia C9 (by omega);simp only[g1,aP];exact ih (i+1) _ w1 (by omega) (by omega) d1 (by rw[d2];simp;omega) g2;rw[bV aE];simp only[hZ aE,zD,gw,List.foldl_nil];exact⟨w,rfl,hw⟩
  have yT:(o.length+1)*8<=140737488355328/\o.length+1<=140737488355328:=by omega
  obtain⟨w',g1,g2⟩:=key n 0 (o++[v]) _ (by omega) (by omega) nA (by simp) (hw.snoc hv hn);rw[zV,List.drop_zero]at g1;rw[List.drop_zero]at g2;refine⟨w',?_,g2⟩;show gk n (PS n) v f.Nodes w o=_;simp only[gk,hw.get _ hv,aF,yT,and_self,if_true,hx,aP,qo3 (show(nd f v).Arcs.length<=1000000 by omega) eH.dis (show(nd f v).Arcs.length<n by omega)];exact g1
def z3q{f:GFS}{o w:I Int}{z:Int}{l27:I aM}{rc:Int->I aM->V GFS}{x:aM}{l:I aK}(hl:l.length<=1000000)(hw:LX f w o)(jD:∀a∈l,a.To∈o)(Ww:∀v∈o,oR f v):∀(m i:Nat),l.length-i<m->i<=l.length->
  ZA (w,o) z l27 rc x m i ((l.take i).map (mG o)++l.drop i)=Se z l27 rc x (l.map (mG o))
 |0,i,hm,_=>by omega
 |m+1,i,hm,hi=>by
  unfold ZA;have bA:((l.take i).map (mG o)++l.drop i).length=l.length:=by simp;omega
  rw[bA];by_cases aE:i<l.length;obtain⟨a,ha,tS⟩:=eI aE;have e1:(((l.take i).map (mG o)++l.drop i))[i]? = some a:=by rw[List.getElem?_append_right (by simp;omega)];simp[show min i l.length=i by omega,ha]
  have e2:(((l.take i).map (mG o)++l.drop i)).set (0+(i:Int).toNat) (mG o a)=(l.take (i+1)).map (mG o)++l.drop (i+1):=by
   rw[aX ha,j5 ha];have h3:((l.take i).map (mG o)).length=i:=by simp;omega
   have:=zas ((l.take i).map (mG o)) (l.drop (i+1)) a (mG o a);rw[h3]at this;rw[Nat.zero_add,zZ,this,List.map_append,zQ,List.map_nil,zT];rfl
  have pV:=jD a tS;have e3:(⟨a.Feat,(o.idxOf a.To:Int)⟩:aK)=mG o a:=rfl;simp only[gS aE,zC,cH,e1,aP,hw.get _ (Ww _ pV),pV,if_true,e3,e2,iG aE (show l.length<=9223372036854775807 by omega)];exact z3q hl hw jD Ww m (i+1) (by omega) (by omega);simp only[hZ aE,zD];rw[zW (by omega),List.drop_eq_nil_of_le (by omega),List.append_nil]
def z3p{f:GFS}{k:Nat}(hg:u7 f)(hf:c8 f k)(hk:k<=1000000){n:Nat}(hn:k+2<=n){r:Int}{o w:I Int}(ho:W5 f r o)(hw:LX f w o):∀(m i:Nat),o.length-i<m->i<=o.length->
  P8 f n (w,o) m i ((o.take i).map (j9 f o))=some ⟨o.map (j9 f o)⟩
 |0,i,hm,_=>by omega
 |m+1,i,hm,hi=>by
  have xR:=ho.seen.len;have vV:=hf.nodes;unfold P8;by_cases aE:i<o.length;obtain⟨v,hv,K?⟩:=eI aE;obtain⟨hx,gU⟩:=SE (ho.seen.ing v K?);have eH:=hg _ gU;have fA:=hf.arcs _ gU;have K4:(mF f v).length=(nd f v).Arcs.length:=(OW _).length_eq;have h2:=z3q (z:=(i:Int)) (l27:=(o.take i).map (j9 f o)) (rc:=P8 f n (w,o) m) (x:=nd f v) (l:=mF f v) (by omega) hw (fun a ha=>ho.clo v K? a (yI.1 ha)) ho.seen.ing n 0 (by omega) (by omega);rw[zV,List.take_zero,List.map_nil,List.nil_append,List.drop_zero]at h2;have yT:(((o.take i).map (j9 f o)).length+1)*32<=140737488355328/\((o.take i).map (j9 f o)).length+1<=140737488355328:=by simp;omega
  have hso:=qo3 (show(nd f v).Arcs.length<=1000000 by omega) eH.dis (show(nd f v).Arcs.length<n by omega);simp only[gS aE,zC,cH,hv,hx,aP,hso];show ZA (w,o) i _ _ (nd f v) n 0 (mF f v)=_;rw[h2];simp only[Se,aF];rw[if_pos yT,iG aE (show o.length<=9223372036854775807 by omega)];have:=z3p hg hf hk hn ho hw m (i+1) (by omega) (by omega);rw[j5 hv]at this;simpa[j9,mF]using this;simp only[hZ aE,zD,lf];rw[zW (by omega)]
def z3o{f:GFS}(hN:f.Nodes.length<=1000000){r:Int}{n:Nat}:∀(m i:Nat),f.Nodes.length-i<m->i<=f.Nodes.length->Iq f r n m i (List.replicate i (-1))=Sf f r n (List.replicate f.Nodes.length (-1))
 |0,i,hm,_=>by omega
 |m+1,i,hm,hi=>by
  unfold Iq;by_cases aE:i<f.Nodes.length;have yT:((List.replicate i (-1:Int)).length+1)*8<=140737488355328/\(List.replicate i (-1:Int)).length+1<=140737488355328:=by simp;omega
  have e:List.replicate i (-1:Int)++[-1]=List.replicate (i+1) (-1):=by rw[List.replicate_succ']
  simp only[gS aE,zC,aF];rw[if_pos yT,iG aE (show f.Nodes.length<=9223372036854775807 by omega),e];exact z3o hN m (i+1) (by omega) (by omega);simp only[hZ aE,zD];rw[show i=f.Nodes.length by omega]
def z3r(hg:u7 f)(hf:c8 f k)(hk:k<=1000000){r:Int}(hr:oR f r)(hn:2*k+4<=n):Ht n f r=some (fX f r):=by
 obtain⟨ho,bZ⟩:=H3 hg hr;have vV:=hf.nodes;have h0:LX f (List.replicate f.Nodes.length (-1)) []:=⟨by simp,fun x hx=>by
  have hc:0<=x/\x<((List.replicate f.Nodes.length (-1:Int)).length:Int):=by rw[List.length_replicate];exact hx
  rw[aB,if_pos hc];have:x.toNat<f.Nodes.length:=by have:=hx.1;have:=hx.2;omega
  simp[this]⟩
 obtain⟨w,g1,g2⟩:=qws hg hf hk n [] r _ (Seen.nil f) hr (by simp) h0 (by simp;omega);rw[bZ n (by omega)]at g1 g2;have xR:=ho.seen.len;have h1:=z3p hg hf hk (show k+2<=n by omega) ho g2 n 0 (by omega) (by omega);rw[zV,List.take_zero,List.map_nil]at h1;have h2:=z3o (f:=f) (by omega) (r:=r) (n:=n) n 0 (by omega) (by omega);rw[zV,List.replicate_zero]at h2;simp only[Ht,h2,Sf,g1,aP,h1,fX]
def qxy(hf:c8 f k)(hk:k<=1000000)(hn:2*k+4<=n):Re n f=some (if I3 f=0 then(fX f 0,0)else(⟨[]⟩,I3 f)):=by
 simp only[Re,zbl hf hk (show k<n by omega),aP];by_cases he:I3 f=0;obtain⟨e1,e2,e3⟩:=qv6.1 he;simp[he,z3r e3 hf hk (r:=0) ⟨by omega,by omega⟩ hn,aP];have hb:(I3 f != 0)=true:=by simpa using he
 simp[he,hb]
end Go.Proofs
namespace Go.Proofs
open Go Go.Rx Go.Vx
def xH(l:I aK)(f:Int):Bool:=l.any (fun x=>x.Feat==f)
variable{f:Int}
def MJ{l:I aK}:xH l f=true↔∃x∈l,x.Feat=f:=by simp[xH]
def nG(a b:I aK):I aK:=b.filter fun y=>!xH a y.Feat
def prs(a b:I aK):I (Int×Int):=b.filterMap fun y=>(a.find? fun x=>x.Feat==y.Feat).map fun x=>(x.To,y.To)
structure rV(a b out:I aK):Prop where
 up:kY out
 pm:out.Perm (a++nG a b)
variable{a:I aK}
variable{b:I aK}
variable{o:I aK}
def rV.uniq{o':I aK}(h:rV a b o)(h':rV a b o'):o=o':=iv h.up h'.up (h.pm.trans h'.pm.symm)
variable{x:aK}
def z3i(hd:mA a)(hx:x∈a)(hf:x.Feat=f):a.find? (fun x=>x.Feat==f)=some x:=by
 have key:∀o,a.find? (fun x=>x.Feat==f)=o->o=some x:=by intro o h;rcases o with _|y;have:=List.find?_eq_none.1 h x hx;simp[hf]at this;have h1:=List.find?_some h;have h2:=List.mem_of_find?_eq_some h;simp at h1;rw[hd.eq y h2 x hx (by omega)]
 exact key _ rfl
def z3j(h:∀x∈a,x.Feat≠f):a.find? (fun x=>x.Feat==f)=none:=by rw[List.find?_eq_none];intro x hx;simpa using h x hx
def ru(a b:I aK)(y:aK):nG a (b++[y])=nG a b++(if xH a y.Feat then[]else[y]):=by unfold nG;rw[List.filter_append];cases h:xH a y.Feat<;>simp[h]
def qq5(hd:mA a){y:aK}(hx:x∈a)(hf:x.Feat=y.Feat):prs a (b++[y])=prs a b++[(x.To,y.To)]:=by simp[prs,List.filterMap_append,z3i hd hx hf]
def qnz{y:aK}(h:∀x∈a,x.Feat≠y.Feat):prs a (b++[y])=prs a b:=by simp[prs,List.filterMap_append,z3j h]
def Gu(a:I aK):∀b:I aK,(nG a b).length+(prs a b).length=b.length
 |[]=>rfl|y::b=>by
  have ih:=Gu a b;unfold nG prs at*;cases h:a.find? (fun x=>x.Feat==y.Feat)with
  |none=>
   have h2:xH a y.Feat=false:=by rw[List.find?_eq_none]at h;rw[Bool.eq_false_iff];intro e;obtain⟨x,hx,he⟩:=MJ.1 e;have:=h x hx;simp[he]at this
   simp only[List.filter_cons,h2,Bool.not_false,if_true,List.filterMap_cons,h,Option.map_none,zO];omega
  |some x=>have h2:xH a y.Feat=true:=MJ.2 ⟨x,List.mem_of_find?_eq_some h,by have:=List.find?_some h;simpa using this⟩;simp only[List.filter_cons,h2,Bool.not_true,Bool.false_eq_true,if_false,List.filterMap_cons,h,zM,zO];omega
def fu{p:Int×Int}(h:p∈prs a b):∃x∈a,∃y∈b,x.Feat=y.Feat/\p=(x.To,y.To):=by obtain⟨y,hy,e⟩:=List.mem_filterMap.1 h;rcases h1:a.find? (fun x=>x.Feat==y.Feat)with _|x;rw[h1]at e;cases e;rw[h1]at e;have h2:=List.find?_some h1;exact⟨x,List.mem_of_find?_eq_some h1,y,hy,by simpa using h2,(Option.some.inj e).symm⟩
def rV.len(h:rV a b o):o.length+(prs a b).length=a.length+b.length:=by have h1:=h.pm.length_eq;have h2:=Gu a b;rw[zU]at h1;omega
def rV.mem(h:rV a b o)(hx:x∈o):x∈a\/x∈b:=by rcases yD.1 (h.pm.mem_iff.1 hx)with h1 |h1;exact Or.inl h1;exact Or.inr (List.mem_filter.1 h1).1
def J1:I aK->I aK->I aK
 |[],b=>b|a,[]=>a
 |x::a,y::b=>if x.Feat<y.Feat then x::J1 a (y::b)else if y.Feat<x.Feat then y::J1 (x::a) b else x::J1 a b
termination_by a b=>a.length+b.length
def z8d(b:I aK):nG [] b=b:=by simp[nG,xH]
def z4u(h:∀y∈b,x.Feat≠y.Feat):nG (x::a) b=nG a b:=by unfold nG;apply List.filter_congr;intro y hy;have:=h y hy;simp[xH,this]
def rV.step(h:rV a b o)(hx:∀y∈o,x.Feat<y.Feat)(hb:∀y∈b,x.Feat≠y.Feat):rV (x::a) b (x::o):=
 ⟨List.pairwise_cons.2 ⟨hx,h.up⟩,by rw[z4u hb];exact h.pm.cons x⟩
def YY:∀(a b:I aK),kY a->kY b->rV a b (J1 a b)
 |[],b,_,hb=>by rw[J1];exact⟨hb,by rw[z8d];exact .refl _⟩
 |x::a,[],ha,_=>by rw[J1];exact⟨ha,by simp[nG]⟩;intro h;cases h
 |x::a,y::b,ha,hb=>by
  obtain⟨h1,h2⟩:=List.pairwise_cons.1 ha;obtain⟨h3,h4⟩:=List.pairwise_cons.1 hb;rw[J1];by_cases e1:x.Feat<y.Feat;rw[if_pos e1];have ih:=YY a (y::b) h2 hb;have hyb:∀z∈y::b,x.Feat<z.Feat:=fun z hz=>by rcases zI.1 hz with rfl |hz;exact e1;have:=h3 z hz;omega
  refine ih.step (fun z hz=>?_) (fun z hz=>by have:=hyb z hz;omega);rcases ih.mem hz with hz |hz;exact h1 z hz;exact hyb z hz;rw[if_neg e1];by_cases e2:y.Feat<x.Feat;rw[if_pos e2];have ih:=YY (x::a) b ha h4;have bo:∀z∈x::a,y.Feat<z.Feat:=fun z hz=>by rcases zI.1 hz with rfl |hz;exact e2;have:=h1 z hz;omega
  refine⟨List.pairwise_cons.2 ⟨fun z hz=>?_,ih.up⟩,?_⟩;rcases ih.mem hz with hz |hz;exact bo z hz;exact h3 z hz;have e:nG (x::a) (y::b)=y::nG (x::a) b:=by
   have:xH (x::a) y.Feat=false:=by rw[Bool.eq_false_iff];intro h;obtain⟨z,hz,e⟩:=MJ.1 h;have:=bo z hz;omega
   unfold nG;simp[List.filter_cons,this]
  rw[e];exact(ih.pm.cons y).trans List.perm_middle.symm;rw[if_neg e2];have e:x.Feat=y.Feat:=by omega
  have ih:=YY a b h2 h4;have h5:=ih.step (x:=x) (fun z hz=>by rcases ih.mem hz with hz |hz;exact h1 z hz;have:=h3 z hz;omega) (fun z hz=>by have:=h3 z hz;omega);refine⟨h5.up,h5.pm.trans ?_⟩;have:nG (x::a) (y::b)=nG (x::a) b:=by have:xH (x::a) y.Feat=true:=MJ.2 ⟨x,by simp,e⟩;unfold nG;simp[List.filter_cons,this]
  rw[this]
 termination_by a b=>a.length+b.length
def z5e(a:I aK):prs a []=[]:=rfl
variable{a:I aK}
def rV.nilr(ha:kY a):rV a [] a:=⟨ha,by simp[nG]⟩
def rV.inn{b o:I aK}{x y:aK}(h:rV a b o)(hx:x∈a)(e:x.Feat=y.Feat):rV a (b++[y]) o:=⟨h.up,by
 have:xH a y.Feat=true:=MJ.2 ⟨x,hx,e⟩;rw[ru,this];simpa using h.pm⟩
def rV.out{b o:I aK}{y:aK}{k:Nat}(h:rV a b o)(h1:∀z∈o.take k,z.Feat<y.Feat)(h2:∀z∈o.drop k,y.Feat<z.Feat):rV a (b++[y]) (o.take k++y::o.drop k):=by
 have hu:=h.up;rw[<-List.take_append_drop k o]at hu;obtain⟨u1,u2,u3⟩:=List.pairwise_append.1 hu;have hn:xH a y.Feat=false:=by rw[Bool.eq_false_iff];intro e;obtain⟨z,hz,e⟩:=MJ.1 e;have hz:z∈o:=h.pm.mem_iff.2 (List.mem_append_left _ hz);rw[<-List.take_append_drop k o]at hz;rcases yD.1 hz with hz |hz;have:=h1 z hz;omega;have:=h2 z hz;omega
 refine⟨List.pairwise_append.2 ⟨u1,List.pairwise_cons.2 ⟨h2,u2⟩,fun z hz w hw=>?_⟩,?_⟩;rcases zI.1 hw with rfl |hw;exact h1 z hz;exact u3 z hz w hw;rw[ru,hn];refine List.perm_middle.trans ?_;rw[List.take_append_drop];have:(y::o).Perm (y::(a++nG a b)):=h.pm.cons y;refine this.trans ?_;simp only[Bool.false_eq_true,if_false];rw[<-zT];exact(List.perm_append_singleton y _).symm
structure Fp(N D:Nat)(aA d:Nat->Nat):Prop where
 lt:∀i,i<N->aA i<N
 idem:∀i,i<N->aA (aA i)=aA i
 zero:∀i,i<N->d (aA i)=0
 bd:∀i,i<N->d i<=D
def hH(aA:Nat->Nat)(m n i:Nat):Nat:=if aA i=n then m else aA i
def GE(aA d:Nat->Nat)(n i:Nat):Nat:=if aA i=n then d i+1 else d i
def Ow(N:Nat)(aA d:Nat->Nat)(i j:Nat):Prop:=j<N/\aA j=aA i/\d j<d i
structure xm(cells:I aT)(N:Nat)(aA d:Nat->Nat):Prop where
 root:∀(i:Nat)(c:aT),cells[i]? = some c->aA i=i->c.forward= -1
 fwd:∀(i:Nat)(c:aT),cells[i]? = some c->aA i≠i->∃j:Nat,c.forward=(j:Int)/\Ow N aA d i j
variable{N:Nat}
variable{D:Nat}
variable{aA:Nat->Nat}
variable{d:Nat->Nat}
variable{m:Nat}
variable{n:Nat}
def Fp.mrg(h:Fp N D aA d)(hm:m<N)(em:aA m=m)(en:aA n=n)(vW:m≠n):Fp N (D+1) (hH aA m n) (GE aA d n) where
 lt i hi:=by unfold hH;split;exact hm;exact h.lt i hi
 idem i hi:=by have h1:=h.idem i hi;unfold hH;by_cases e:aA i=n;simp[e,em,vW];simp[e,h1]
 zero i hi:=by have h1:=h.idem i hi;have h2:=h.zero i hi;have h3:=h.zero m hm;unfold hH GE;rw[em]at h3;by_cases e:aA i=n;simp[e,em,vW,h3];simp[e,h1,h2]
 bd i hi:=by have:=h.bd i hi;unfold GE;split<;>omega
variable{i:Nat}
def Ow.mrg{D:Nat}{j:Nat}(h:Ow N aA d i j):Ow N (hH aA m n) (GE aA d n) i j:=by obtain⟨h1,h2,h3⟩:=h;refine⟨h1,by simp[hH,h2],?_⟩;unfold GE;rw[h2];split<;>omega
def z84(h:Fp N D aA d)(hm:m<N)(hn:n<N)(em:aA m=m)(en:aA n=n)(vW:m≠n):Ow N (hH aA m n) (GE aA d n) n m:=by have h3:=h.zero m hm;have h4:=h.zero n hn;rw[em]at h3;rw[en]at h4;refine⟨hm,by simp[hH,em,en,vW],?_⟩;simp[GE,em,en,vW,h3,h4]
def MB{v11:Type}{l:I v11}{k:Nat}{x y:v11}(h:(l.set k x)[i]? = some y):(i=k/\y=x)\/(i≠k/\l[i]? = some y):=by rw[List.getElem?_set]at h;by_cases e:k=i;rw[if_pos e]at h;split at h;exact Or.inl ⟨e.symm,(Option.some.inj h).symm⟩;cases h;rw[if_neg e]at h;exact Or.inr ⟨fun q=>e q.symm,h⟩
def z5r(em:aA m=m)(vW:m≠n)(h:hH aA m n i=i):i≠n/\aA i=i:=by unfold hH at h;by_cases e:aA i=n;rw[if_pos e]at h;subst h;exact⟨vW,em⟩;rw[if_neg e]at h;exact⟨fun q=>e (by rw[h,q]),h⟩
def z8v(em:aA m=m)(h:hH aA m n i≠i)(hn:i≠n):aA i≠i:=by intro q;apply h;unfold hH;rw[q,if_neg hn]
def xm.mrg{cells:I aT}{N D:Nat}{aA d:Nat->Nat}(h:xm cells N aA d)(hr:Fp N D aA d){m n:Nat}(hm:m<N)(hn:n<N)(em:aA m=m)(en:aA n=n)(vW:m≠n)(t:Int)(o:I aK)(z:Int)(q:I aK):
  xm ((cells.set m ⟨-1,t,o⟩).set n ⟨(m:Int),z,q⟩) N (hH aA m n) (GE aA d n) where
 root i c hc hi:=by obtain⟨h1,h2⟩:=z5r em vW hi;rcases MB hc with⟨e,_⟩|⟨_,hc⟩;exact absurd e h1;rcases MB hc with⟨e,e2⟩|⟨_,hc⟩;subst e2;rfl;exact h.root i c hc h2
 fwd i c hc hi:=by rcases MB hc with⟨e,e2⟩|⟨h1,hc⟩;subst e2;subst e;exact⟨m,rfl,z84 hr hm hn em en vW⟩;have h2:=z8v em hi h1;rcases MB hc with⟨e,e2⟩|⟨_,hc⟩;subst e;exact absurd em h2;obtain⟨j,h3,h4⟩:=h.fwd i c hc h2;exact⟨j,h3,h4.mrg (D:=D)⟩
def tot(l:I aT):Nat:=(l.map fun c=>c.arcs.length).sum
def Gq:∀{l:I aT}{i:Nat}{x:aT}(c:aT),l[i]? = some x->tot (l.set i c)+x.arcs.length=tot l+c.arcs.length
 |[],i,x,c,h=>by simp at h
 |y::l,0,x,c,h=>by
  have:y=x:=by simpa using h
  subst this;simp only[List.set_cons_zero,tot,zQ,List.sum_cons];omega
 |y::l,i+1,x,c,h=>by have:=Gq (l:=l) (i:=i) c (by simpa using h);simp only[List.set_cons_succ,tot,zQ,List.sum_cons]at this ⊢;omega
def Gr:∀{l:I aT}{i:Nat}{x:aT},l[i]? = some x->x.arcs.length<=tot l:=fun{l i x} h=>by
 have:=Gq (aT.mk 0 0 []) h;simp only[zS]at this;omega
structure wK(N:Nat)(FB:Int)(l:I aK):Prop where
 up:kY l
 ok:∀a∈l,0<=a.Feat/\a.Feat<FB/\0<=a.To/\a.To<N
def wK.nil(N:Nat)(FB:Int):wK N FB []:=⟨List.Pairwise.nil,fun a h=>by cases h⟩
def rV.ok{N:Nat}{FB:Int}{a b o:I aK}(h:rV a b o)(ha:wK N FB a)(hb:wK N FB b):wK N FB o:=⟨h.up,fun x hx=>by
 rcases h.mem hx with h1 |h1;exact ha.ok x h1;exact hb.ok x h1⟩
structure lO(N D:Nat)(FB TB:Int)(cells:I aT)(aA d:Nat->Nat):Prop where
 rok:Fp N D aA d
 cok:xm cells N aA d
 len:cells.length=N
 ar:∀(i:Nat)(c:aT),cells[i]? = some c->wK N FB c.arcs
 kd:∀(i:Nat)(c:aT),cells[i]? = some c->0<=c.kind/\c.kind<TB
def xG(cells:I aT)(m n:Nat)(t:Int)(o:I aK):I aT:=(cells.set m ⟨-1,t,o⟩).set n ⟨(m:Int),0,[]⟩
def lO.mrg{N D:Nat}{FB TB:Int}{cells:I aT}{aA d:Nat->Nat}(h:lO N D FB TB cells aA d){m n:Nat}(hm:m<N)(hn:n<N)(em:aA m=m)(en:aA n=n)(vW:m≠n){t:Int}{o:I aK}(ho:wK N FB o)(ht:0<=t/\t<TB):
  lO N (D+1) FB TB (xG cells m n t o) (hH aA m n) (GE aA d n) where
 rok:=h.rok.mrg hm em en vW
 cok:=h.cok.mrg h.rok hm hn em en vW t o 0 []
 len:=by simp[xG,h.len]
 ar i c hc:=by rcases MB hc with⟨_,e⟩|⟨_,hc⟩;subst e;exact .nil N FB;rcases MB hc with⟨_,e⟩|⟨_,hc⟩;subst e;exact ho;exact h.ar i c hc
 kd i c hc:=by rcases MB hc with⟨_,e⟩|⟨_,hc⟩;subst e;exact⟨by simp,by show(0:Int)<TB;omega⟩;rcases MB hc with⟨_,e⟩|⟨_,hc⟩;subst e;exact ht;exact h.kd i c hc
def zcq{cells:I aT}{m n:Nat}{x y:aT}(hx:cells[m]? = some x)(hy:cells[n]? = some y)(vW:m≠n)(t:Int){o:I aK}(ho:rV x.arcs y.arcs o):
  tot (xG cells m n t o)+(prs x.arcs y.arcs).length=tot cells:=by
 have h1:=Gq ⟨-1,t,o⟩ hx;have FK:(cells.set m ⟨-1,t,o⟩)[n]? = some y:=by rw[List.getElem?_set_ne vW];exact hy
 have h2:=Gq ⟨(m:Int),0,[]⟩ FK;have h3:=ho.len;simp only[xG,zS]at*;omega
def qS(tr:I bH)(cells:I aT):I aT:=tr.foldr (fun x l=>l.set x.atx.toNat x.old) cells
def oh(tr:I bH)(x:bH)(cells:I aT):qS (tr++[x]) cells=qS tr (cells.set x.atx.toNat x.old):=by simp[qS]
def qzy{l:I aT}{k:Nat}{x y:aT}(h:l[k]? = some x):(l.set k y).set k x=l:=by rw[List.set_set];apply List.ext_getElem? fun i=>?_;rw[List.getElem?_set];by_cases e:k=i;subst e;have hk:=(zG.1 h).1;simp[hk]at h ⊢;exact h.symm;simp[e]
def rI(aA:Nat->Nat)(v:Int):Int:=(aA v.toNat:Int)
def pR(cells:I aT)(v:Int):aT:=(cells[v.toNat]?).getD ⟨-1,0,[]⟩
def Fk(out:I aM)(k:Nat)(l:I aK):I aM:=out.set k ⟨((out[k]?).map (·.Typex)).getD 0,l⟩
def vK(g:I Int×I aM->Int->Int×I Int×I aM):I aK->I Int×I aM->I aK->I aK×I Int×I aM
 |[],s,b7=>(b7,s)|a::l,s,b7=>vK g l (g s a.To).2 (b7++[⟨a.Feat,(g s a.To).1⟩])
def vis(cells:I aT)(aA:Nat->Nat):Nat->I Int×I aM->Int->Int×I Int×I aM
 |0,s,_=>(0,s)|k+1,s,v=>if rI aA v∈s.1 then((s.1.idxOf (rI aA v):Int),s)
  else
   let c:=pR cells (rI aA v)
   let r:=vK (vis cells aA k) c.arcs (s.1++[rI aA v],s.2++[⟨c.kind,[]⟩]) []
   ((s.1.length:Int),r.2.1,Fk r.2.2 s.1.length r.1)
structure Sn(N:Nat)(B:Nat)(s:I Int×I aM):Prop where
 nd:s.1.Nodup
 ing:∀v∈s.1,0<=v/\v<(N:Int)
 len:s.2.length=s.1.length
 sm:∀x∈s.2,x.Arcs.length<=B
variable{N:Nat}
def Sn.le{B:Nat}{s:I Int×I aM}(h:Sn N B s):s.1.length<=N:=Rp N h.nd h.ing
def Sn.nil(N B:Nat):Sn N B ([],[]):=⟨List.nodup_nil,fun v hv=>(List.not_mem_nil hv).elim,rfl,fun v hv=>(List.not_mem_nil hv).elim⟩
def Sn.snoc{B:Nat}{s:I Int×I aM}(h:Sn N B s){v:Int}(hv:0<=v/\v<(N:Int))(hn:v ∉ s.1)(k:Int):Sn N B (s.1++[v],s.2++[⟨k,[]⟩]):=⟨by
 rw[List.nodup_append];refine⟨h.nd,by simp,?_⟩;intro a ha b hb;simp at hb;subst hb;intro e;subst e;exact hn ha,fun u hu=>by
 rcases yD.1 hu with hu |hu;exact h.ing u hu;simp at hu;subst hu;exact hv,by simp[h.len],fun x hx=>by
 rcases yD.1 hx with hx |hx;exact h.sm x hx;simp at hx;subst hx;simp⟩
def lO.cel{D:Nat}{FB TB:Int}{cells:I aT}{aA d:Nat->Nat}(h:lO N D FB TB cells aA d){v:Int}(hv:0<=v/\v<(N:Int)):cells[v.toNat]? = some (pR cells v):=by
 have h1:=h.len;have h2:v.toNat<cells.length:=by omega
 rw[pR,List.getElem?_eq_getElem h2];rfl
def lO.rI{N D:Nat}{FB TB:Int}{cells:I aT}{aA d:Nat->Nat}(h:lO N D FB TB cells aA d){v:Int}(hv:0<=v/\v<(N:Int)):0<=rI aA v/\rI aA v<(N:Int):=by have:=h.rok.lt v.toNat (by omega);unfold Go.Proofs.rI;omega
def z0a(g:I Int×I aM->Int->Int×I Int×I aM):∀(l:I aK)(s:I Int×I aM)(b7:I aK),(vK g l s b7).1.length=b7.length+l.length
 |[],s,b7=>rfl|a::l,s,b7=>by rw[vK,z0a g l];simp;omega
def I'{N D B:Nat}{FB TB:Int}{cells:I aT}{aA d:Nat->Nat}(h:lO N D FB TB cells aA d)(hB:tot cells<=B):∀(k:Nat)(s:I Int×I aM)(v:Int),Sn N B s->(0<=v/\v<(N:Int))->N-s.1.length<k->
  Sn N B (vis cells aA k s v).2/\s.1.length<=(vis cells aA k s v).2.1.length/\(0<(vis cells aA k s v).2.1.length)
 |0,s,v,hs,hv,hk=>by omega
 |k+1,s,v,hs,hv,hk=>by
  unfold vis;by_cases hm:rI aA v∈s.1;rw[if_pos hm];exact⟨hs,zF _,List.length_pos_of_mem hm⟩;rw[if_neg hm];have hr:=h.rI hv;have nA:=hs.snoc hr hm (pR cells (rI aA v)).kind;have hc:=h.cel hr;have Xt:=h.ar _ _ hc;have CC:=nA.le;simp only[zU,zO,zS]at CC;have key:∀(l:I aK),(∀a∈l,0<=a.To/\a.To<(N:Int))->∀(s':I Int×I aM)(b7:I aK),Sn N B s'->s.1.length+1<=s'.1.length->Sn N B (vK (vis cells aA k) l s' b7).2/\s.1.length+1<=(vK (vis cells aA k) l s' b7).2.1.length:=by
   intro l;induction l with
   |nil=>intro _ s' b7 h1 h2;exact⟨h1,h2⟩|cons a l ih=>intro hl s' b7 h1 h2;have ha:=hl a (by simp);obtain⟨g1,g2,g3⟩:=I' h hB k s' a.To h1 ha (by omega);exact ih (fun b hb=>hl b (List.mem_cons_of_mem _ hb)) _ _ g1 (by omega)
  obtain⟨g1,g2⟩:=key _ (fun a ha=>(Xt.ok a ha).2.2) _ [] nA (by simp);refine⟨⟨g1.nd,g1.ing,?_,?_⟩,?_,?_⟩;show(Fk _ _ _).length=_;rw[Fk,List.length_set];exact g1.len;intro x hx;rcases List.mem_or_eq_of_mem_set hx with hx |hx;exact g1.sm x hx;subst hx;show(vK _ _ _ _).1.length<=B;rw[z0a];have:=Gr hc;simp;omega;show s.1.length<=(vK (vis cells aA k) _ _ _).2.1.length;omega;show 0<(vK (vis cells aA k) _ _ _).2.1.length;omega
end Go.Proofs
namespace Go.Proofs
open Go Go.Rx Go.Vx
set_option maxRecDepth 10000
def z42{N D:Nat}{FB TB:Int}{cells:I aT}{aA d:Nat->Nat}(h:lO N D FB TB cells aA d):∀(k i:Nat),d i<k->i<N->Jx cells k (i:Int)=some (aA i:Int)
 |0,i,hk,_=>by omega
 |k+1,i,hk,hi=>by
  have hl:=h.len;obtain⟨c,hc,_⟩:=eI (l:=cells) (show i<cells.length by omega);simp only[Jx,cH,hc,aP];by_cases e:aA i=i;have:=h.cok.root i c hc e;simp[this,gh,e];obtain⟨j,h1,h2,h3,h4⟩:=h.cok.fwd i c hc e;have h5:decide (c.forward>=0)=true:=by simp[h1]
  rw[h5,zC,h1,z42 h k j (by omega) h2,h3]
def nr{N D:Nat}{FB TB:Int}{cells:I aT}{aA d:Nat->Nat}(h:lO N D FB TB cells aA d){n:Nat}(hn:D<n){v:Int}(hv:0<=v/\v<(N:Int))(p2:I dI)(p3:I eB)(p6:I bH)(p8:I d6):
  Jq n v p2 p3 cells p6 p8=some (rI aA v):=by
 have h1:v.toNat<N:=by omega
 have h2:=h.rok.bd _ h1;have:=z42 h n v.toNat (by omega) h1;rw[show((v.toNat:Nat):Int)=v by omega]at this;exact this
def Aq{i j:Nat}(h:i+j<=1000000000):IntKind.i64.wrap ((IntKind.u64.wrap (IntKind.i64.wrap ((i:Int)+(j:Int)))).fdiv (2^(min (1:Int).toNat IntKind.u64.bits)))=(((i+j)/2:Nat):Int):=by
 have e1:IntKind.i64.wrap ((i:Int)+(j:Int))=((i+j:Nat):Int):=GK (by omega) (by omega);have e2:IntKind.u64.wrap ((i+j:Nat):Int)=((i+j:Nat):Int):=by unfold IntKind.wrap;simp only[IntKind.signed,IntKind.bits,Bool.false_and,Bool.false_eq_true,if_false];omega
 have e3:min (1:Int).toNat IntKind.u64.bits=1:=rfl;have e4:((i+j:Nat):Int).fdiv (2^1)=(((i+j)/2:Nat):Int):=by rw[show(2:Int)^1=((2:Nat):Int) by rfl,Int.fdiv_eq_ediv_of_nonneg _ (Int.natCast_nonneg _)];rfl
 rw[e1,e2,e3,e4];exact wr (by omega) (by omega)
def kY.lt{l:I aK}(h:kY l){i j:Nat}{x y:aK}(hi:l[i]? = some x)(hj:l[j]? = some y)(m7:i<j):x.Feat<y.Feat:=by obtain⟨h1,e1⟩:=zG.1 hi;obtain⟨h2,e2⟩:=zG.1 hj;have:=List.pairwise_iff_getElem.1 h i j h1 h2 m7;rw[e1,e2]at this;exact this
structure At(l:I aK)(f:Int)(k:Nat):Prop where
 le:k<=l.length
 lo:∀(i:Nat)(x:aK),l[i]? = some x->i<k->x.Feat<f
 hi:∀(i:Nat)(x:aK),l[i]? = some x->k<=i->f<=x.Feat
def z9p(n:Nat){x:aK}{f:Int}(h1:0<=x.Feat/\x.Feat<1000000000)(h2:0<=f/\f<1000000000):ZG n x f=some (x.Feat-f):=by rw[ZG,wr (by omega) (by omega)]
def Er{N:Nat}{FB:Int}{l:I aK}(h:wK N FB l)(J:FB<=1000000000)(hl:l.length<=1000000){f:Int}(hf:0<=f/\f<FB)(n:Nat):∀(m i j:Nat),j-i<m->i<=j->j<=l.length->(∀(k:Nat)(x:aK),l[k]? = some x->k<i->x.Feat<f)->(∀(k:Nat)(x:aK),l[k]? = some x->j<=k->f<=x.Feat)->
  ∃(k:Nat)(b:Bool),TP l f (ZG n) m (i:Int) (j:Int)=some ((k:Int),b)/\At l f k/\(b=true↔∃x,l[k]? = some x/\x.Feat=f)
 |0,i,j,hm,_,_,_,_=>by omega
 |m+1,i,j,hm,m7,hj,h1,h2=>by
  unfold TP;by_cases e:i<j;have e1:decide ((i:Int)<(j:Int))=true:=by simp;omega
  have Bz:=Aq (i:=i) (j:=j) (by omega);obtain⟨x,hx,gU⟩:=eI (l:=l) (show(i+j)/2<l.length by omega);have Bl:=h.ok x gU;have hc:=z9p n (x:=x) (f:=f) (by omega) (by omega);simp only[e1,zC,Bz,cH,hx,aP,hc];by_cases h3:x.Feat-f<0;have e2:IntKind.i64.wrap ((((i+j)/2:Nat):Int)+1)=(((i+j)/2+1:Nat):Int):=GK (by omega) (by omega);simp only[h3,yC,zC,Kf,e2];refine Er h J hl hf n m ((i+j)/2+1) j (by omega) (by omega) hj (fun k y hy hk=>?_) h2;by_cases e3:k=(i+j)/2;subst e3;rw[hx]at hy;have:=Option.some.inj hy;subst this;omega;have:=h.up.lt hy hx (by omega);omega;simp only[h3,yB,zD,Kf];refine Er h J hl hf n m i ((i+j)/2) (by omega) (by omega) (by omega) h1 (fun k y hy hk=>?_);by_cases e3:k=(i+j)/2;subst e3;rw[hx]at hy;have:=Option.some.inj hy;subst this;omega;have:=h.up.lt hx hy (by omega);omega;have e0:i=j:=by omega
  subst e0;have e1:decide ((i:Int)<(i:Int))=false:=by simp
  have pJ:At l f i:=⟨hj,h1,h2⟩;simp only[e1,zD,bf];by_cases aE:i<l.length;obtain⟨x,hx,gU⟩:=eI aE;have Bl:=h.ok x gU;have hc:=z9p n (x:=x) (f:=f) (by omega) (by omega);simp only[gS aE,zC,cH,hx,aP,hc];refine⟨i,_,rfl,pJ,?_⟩;rw[beq_iff_eq];constructor;intro q;exact⟨x,hx,by omega⟩;rintro⟨y,hy,q⟩;rw[hx]at hy;have:=Option.some.inj hy;subst this;omega;simp only[hZ aE,zD,aP];refine⟨i,false,rfl,pJ,by simp,?_⟩;rintro⟨y,hy,_⟩;exact absurd (zG.1 hy).1 aE
def pk(p:Int×Int):i5:=⟨p.1,p.2⟩
def nq{N:Nat}{FB:Int}{a b:I aK}(ha:wK N FB a)(hb:wK N FB b)(J:FB<=1000000000)(CB:a.length<=20000)(hlb:b.length<=20000){n:Nat}(hn:60000<=n):∀(m k:Nat)(o:I aK),b.length-k<m->k<=b.length->rV a (b.take k) o->
  ∃o',ZT b n m (k:Int) ((prs a (b.take k)).map pk) o=some (o',(prs a b).map pk)/\rV a b o'
 |0,k,o,hm,_,_=>by omega
 |m+1,k,o,hm,hk,ho=>by
  unfold ZT;have xR:=ho.len;have Lb:(b.take k).length<=20000:=by rw[List.length_take];omega
  by_cases aE:k<b.length;obtain⟨y,hy,C4⟩:=eI aE;have hyo:=hb.ok y C4;have hoo:=ho.ok ha ⟨hb.up.sublist (List.take_sublist k b),fun x hx=>hb.ok x (List.mem_of_mem_take hx)⟩;obtain⟨i,bb,s1,s2,s3⟩:=Er hoo J (by omega) (f:=y.Feat) ⟨hyo.1,hyo.2.1⟩ n n 0 o.length (by omega) (by omega) (zF _) (fun k x _ h=>by omega) (fun k x hx h=>by have:=(zG.1 hx).1;omega);rw[zV]at s1;simp only[gS aE,zC,cH,hy,aP,be,s1];have ht:=j5 hy;cases bb with
  |true=>
   obtain⟨x,hx,e⟩:=s3.1 rfl;have gU:=zX hx;have hxa:x∈a:=by
    rcases yD.1 (ho.pm.mem_iff.1 gU)with h |h;exact h;exfalso;have h1:=(List.mem_filter.1 h).1;obtain⟨q,hq⟩:=List.mem_iff_getElem?.1 h1;have Q2:q<k:=by have:=(zG.1 hq).1;rw[List.length_take]at this;omega
    rw[List.getElem?_take_of_lt Q2]at hq;have:=hb.up.lt hq hy Q2;omega
   have hp:=qq5 (b:=b.take k) ha.up.dis hxa e;have nO:(prs a (b.take k)).length<=20000:=by have:=Gu a (b.take k);omega
   simp only[zC,hx,aP,iG aE (show b.length<=9223372036854775807 by omega)];rw[aF,if_pos (by simp only[yA];omega)];have jD:=ho.inn hxa e;rw[<-ht]at hp jD;have:=nq ha hb J CB hlb hn m (k+1) o (by omega) (by omega) jD;rw[hp,List.map_append]at this;exact this
  |false=>
   have eH:∀x,o[i]? = some x->x.Feat≠y.Feat:=fun x hx e=>by have:=s3.2 ⟨x,hx,e⟩;cases this
   have FS:∀z∈o.take i,z.Feat<y.Feat:=fun z hz=>by
    obtain⟨q,hq⟩:=List.mem_iff_getElem?.1 hz;have Q2:q<i:=by have:=(zG.1 hq).1;rw[List.length_take]at this;omega
    rw[List.getElem?_take_of_lt Q2]at hq;exact s2.lo q z hq Q2
   have UT:∀z∈o.drop i,y.Feat<z.Feat:=fun z hz=>by
    obtain⟨q,hq⟩:=List.mem_iff_getElem?.1 hz;rw[List.getElem?_drop]at hq;have h1:=s2.hi (i+q) z hq (by omega);cases q with
    |zero=>have:=eH z hq;omega|succ q=>obtain⟨x,hx,_⟩:=eI (l:=o) (show i<o.length by have:=(zG.1 hq).1;omega);have h2:=hoo.up.lt hx hq (by omega);have h3:=s2.hi i x hx (zF _);omega
   have kP:=ho.out FS UT;have hna:∀x∈a,x.Feat≠y.Feat:=fun x hx e=>by have Bl:x∈o:=ho.pm.mem_iff.2 (List.mem_append_left _ hx);rw[<-List.take_append_drop i o]at Bl;rcases yD.1 Bl with h |h;have:=FS x h;omega;have:=UT x h;omega
   have hp:=qnz (b:=b.take k) hna;have hile:=s2.le;have hins:gf n (i:Int) o y.Feat y.To=some (o.take i++y::o.drop i):=by rw[gf,aF,if_pos (by omega),zZ]
   simp only[zD,hins,aP,iG aE (show b.length<=9223372036854775807 by omega)];rw[<-ht]at hp kP;have:=nq ha hb J CB hlb hn m (k+1) _ (by omega) (by omega) kP;rw[hp]at this;exact this
  have e:b.take k=b:=zW (by omega);rw[e]at ho ⊢;simp only[hZ aE,zD,sf];exact⟨o,rfl,ho⟩
end Go.Proofs
namespace Go.Proofs
open Go Go.Rx Go.Vx Go.Shelf Go.Sort
set_option maxRecDepth 10000
abbrev Str:=I UInt8
def jR{v11 S R:Type}{l:I v11}(hl:l.length<=9223372036854775807){F:Nat->Int->S->V R}(v08:Nat->S->Prop){Q:R->Prop}
  (h:∀(m i:Nat)(x:v11)(s:S),l[i]? = some x->i<l.length->decide ((i:Int)<(l.length:Int))=true->IntKind.i64.wrap ((i:Int)+1)=((i+1:Nat):Int)->v08 i s->(∀s',v08 (i+1) s'->∃r,F m ((i+1:Nat):Int) s'=some r/\Q r)->∃r,F (m+1) (i:Int) s=some r/\Q r) (hK:∀(m:Nat)(s:S),decide ((l.length:Int)<(l.length:Int))=false->v08 l.length s->∃r,F (m+1) (l.length:Int) s=some r/\Q r):
  ∀(m i:Nat)(s:S),l.length-i<m->i<=l.length->v08 i s->∃r,F m (i:Int) s=some r/\Q r
 |0,i,s,hm,_,_=>by omega
 |m+1,i,s,hm,hi,hs=>by
  by_cases aE:i<l.length;obtain⟨x,hx,_⟩:=eI aE;exact h m i x s hx aE (gS aE) (iG aE hl) hs fun s' C7=>jR hl v08 h hK m (i+1) s' (by omega) (by omega) C7;have:i=l.length:=by omega
  subst this;exact hK m s (hZ (by omega)) hs
def fO{β:Type}{p:Prop}[Decidable p]{k:V β}(h:p):aF p k=k:=if_pos h
def beqF{a b:Str}(h:a≠b):lQ a b=false:=by rcases e:lQ a b with _|_;rfl;exact absurd ((B_ _ _).1 e) h
def LI(a b:Str):lQ a b=decide (a=b):=by by_cases h:a=b;rw[(B_ _ _).2 h];simp[h];rw[beqF h];simp[h]
variable{v11:Type}
variable{l:I v11}
def z9q{a b:Nat}(h1:a<=b)(h2:b<=l.length):sW l (a:Int) (b:Int)=some ((l.drop a).take (b-a)):=by
 unfold sW;have:0<=(a:Int)/\(a:Int)<=(b:Int)/\(b:Int)<=(l.length:Int):=by omega
 simp[this,List.drop_take]
def zy{b:Nat}(h2:b<=l.length):sW l 0 (b:Int)=some (l.take b):=by
 have:=z9q (l:=l) (Nat.zero_le b) h2
 rwa [zV,List.drop_zero,Nat.sub_zero]at this
def qf{a:Nat}(h2:a<=l.length):sW l (a:Int) (l.length:Int)=some (l.drop a):=by
 have:=z9q (l:=l) h2 (zF _)
 rwa [zW (by simp)]at this
def zc7(n:Nat)(z:Int)(b:Bool):∃r,Qv n z b=some r:=by simp only[Qv,Z6,yf,Rn];cases decide (z>=48)<;>cases decide (z<=57)<;>cases (z==45)<;>cases b<;>cases decide (z>=65)<;>cases decide (z<=90)<;>cases decide (z>=97)<;>cases decide (z<=122)<;>exact⟨_,rfl⟩
variable{s:Str}
def z03{i:Nat}{x:UInt8}(h:s[i]? = some x):Y0 s (i:Int)=some (x.toNat:Int):=by
 have:=(zG.1 h).1;have h2:0<=(i:Int)/\(i:Int)<(s.length:Int):=by omega
 simp[Y0,h2,h]
variable{n:Nat}
def qzd(s:Str)(b:Bool)(hn:40<=n):∃r,Ib n s b=some r/\(r=true->0<s.length/\s.length<=32):=by
 unfold Ib;by_cases h1:(s.length:Int)<1;simp only[h1,yC,zC,aP];exact⟨false,rfl,fun h=>by cases h⟩;by_cases h2:(s.length:Int)>32;simp only[h1,h2,yC,yB,zC,zD,aP];exact⟨false,rfl,fun h=>by cases h⟩;obtain⟨x,hx,_⟩:=eI (show 0<s.length by omega);have h3:=z03 hx;rw[zV]at h3;have hd:∃r,Z6 n (x.toNat:Int)=some r:=by unfold Z6;cases decide ((x.toNat:Int)>=48)<;>exact⟨_,rfl⟩
 obtain⟨c,hc⟩:=hd;have key:=jR (l:=s) (by omega) (F:=fun m z (_:Unit)=>ZR s b n m z) (fun _ _=>True) (Q:=fun r=>True)
  (fun m i x _ hx aE hd hw _ ih=>by obtain⟨r,hr⟩:=zc7 n (x.toNat:Int) b;obtain⟨q,hq,_⟩:=ih () trivial;simp only[ZR,hd,zC,z03 hx,aP,hr,hw];rcases r with _|_;exact⟨_,rfl,trivial⟩;exact⟨q,hq,trivial⟩)
  (fun m _ hd _=>by simp only[ZR,hd,zD,sb];exact⟨_,rfl,trivial⟩) n 0 () (by omega) (by omega) trivial
 obtain⟨q,hq,_⟩:=key;rw[zV]at hq;simp only[h1,h2,yB,zD,h3,aP,hc];cases c with
 |true=>simp only[zC,aP];exact⟨false,rfl,fun h=>by cases h⟩|false=>simp only[zD,aP];rcases((x.toNat:Int)==45)with _|_;exact⟨q,hq,fun _=>by omega⟩;exact⟨false,rfl,fun h=>by cases h⟩
def z9v{d:I bL}(hd:d.length<=1000000){s:Str}:∀(m i:Nat),d.length-i<m->i<=d.length->
  (∃j x,i<=j/\d[j]? = some x/\x.Name=s/\(∀k y,i<=k->k<j->d[k]? = some y->y.Name≠s)/\ZE d s m i=some (j:Int))\/((∀x∈d.drop i,x.Name≠s)/\ZE d s m i=some (-1))
 |0,i,hm,_=>by omega
 |m+1,i,hm,hi=>by unfold ZE;by_cases aE:i<d.length;obtain⟨x,hx,_⟩:=eI aE;simp only[gS aE,zC,cH,hx,aP,iG aE (show d.length<=9223372036854775807 by omega),LI];by_cases hb:x.Name=s;simp only[hb,yC,zC];exact .inl ⟨i,x,zF _,hx,hb,fun k y h1 h2=>by omega,rfl⟩;simp only[hb,yB,zD];rcases z9v hd (s:=s) m (i+1) (by omega) (by omega)with⟨j,y,h1,h2,h3,h4,h5⟩|⟨h1,h2⟩;refine .inl ⟨j,y,by omega,h2,h3,fun k z Cf DM hz=>?_,h5⟩;by_cases e:k=i;subst e;rw[hx]at hz;cases hz;exact hb;exact h4 k z (by omega) DM hz;refine .inr ⟨fun y hy=>?_,h2⟩;rw[aX hx]at hy;rcases zI.1 hy with rfl |hy;exact hb;exact h1 y hy;simp only[hZ aE,zD,ly,bV aE];exact .inr ⟨fun x hx=>(List.not_mem_nil hx).elim,by simp⟩
variable{d:I bL}
def OQ(hd:d.length<=1000000)(s:Str)(hn:d.length<n):
  (∃(j:Nat)(x:bL),d[j]? = some x/\x.Name=s/\(∀k y,k<j->d[k]? = some y->y.Name≠s)/\JD n d s=some (j:Int))\/((∀x∈d,x.Name≠s)/\JD n d s=some (-1)):=by rcases z9v hd (s:=s) n 0 (by omega) (by omega)with⟨j,y,_,h2,h3,h4,h5⟩|⟨h1,h2⟩;exact .inl ⟨j,y,h2,h3,fun k z hk hz=>h4 k z (by omega) hk hz,h5⟩;exact .inr ⟨by rw[List.drop_zero]at h1;exact h1,h2⟩
def z2d{l:I Str}(hl:l.length<=1000000){s:Str}:∀(m i:Nat),l.length-i<m->i<=l.length->Jd l s m i=some (decide (s∈l.drop i))
 |0,i,hm,_=>by omega
 |m+1,i,hm,hi=>by unfold Jd;by_cases aE:i<l.length;obtain⟨x,hx,_⟩:=eI aE;simp only[gS aE,zC,cH,hx,aP,aX hx,zI,iG aE (show l.length<=9223372036854775807 by omega),LI];by_cases e:x=s;simp[e];have e':¬ s=x:=fun h=>e h.symm;simp only[e,e',yB,zD,false_or];exact z2d hl m (i+1) (by omega) (by omega);simp only[hZ aE,zD,uw,bV aE,List.not_mem_nil,yB]
variable{l:I Str}
def OV(hl:l.length<=1000000)(s:Str)(hn:l.length<n):HB n l s=some (decide (s∈l)):=by have:=z2d hl (s:=s) n 0 (by omega) (by omega);rw[zV,List.drop_zero]at this;exact this
def fV(l:I Str):Prop:=l.Pairwise fun a b=>kT a b=true
def fV.nodup(h:fV l):l.Nodup:=h.imp fun{a b} h e=>by subst e;rw[qk6]at h;cases h
def zak(hl:l.length<=1000000)(ha:fV l){j:Nat}(hj:j<=l.length)(hb:∀x∈l.take j,kT x s=true)(hx:∀x,l[j]? = some x->kT x s=false):∃out,Rz l s j=some out/\(∀x,x∈out↔x=s\/x∈l)/\out.length<=l.length+1/\fV out:=by
 unfold Rz;have tl:(l.take j).length=j:=by simp;omega
 have dl:(l.drop j).length=l.length-j:=by simp
 have ins:(∀x∈l.drop j,kT s x=true)->∃out,(a8 (sW l 0 (j:Int)) fun fG=>
  aF (fG.length*16<=140737488355328/\fG.length<=140737488355328) (
  aF ((fG.length+1)*16<=140737488355328/\fG.length+1<=140737488355328) (
  a8 (sW l (j:Int) (l.length:Int)) fun eG=>
  aF (((fG++[s]).length+eG.length)*16<=140737488355328/\(fG++[s]).length+eG.length<=140737488355328) (
  some ((fG++[s])++eG)))))=some out/\(∀x,x∈out↔x=s\/x∈l)/\out.length<=l.length+1/\fV out:=by
  intro hd;refine⟨(l.take j++[s])++l.drop j,?_,fun x=>?_,by simp;omega,?_⟩;rw[zy hj,aP,fO (by rw[tl];omega),fO (by rw[tl];omega),qf hj,aP,fO (by rw[zU,tl,dl];simp;omega)];have:=List.take_append_drop j l;constructor;intro h;simp only[yD,List.mem_singleton]at h;rcases h with(h |h)|h;exact .inr (List.mem_of_mem_take h);exact .inl h;exact .inr (List.mem_of_mem_drop h);rintro(h |h);simp[h];rw[<-this]at h;simp only[yD]at h ⊢;rcases h with h |h;exact .inl (.inl h);exact .inr h;unfold fV at*;rw[<-List.take_append_drop j l,List.pairwise_append]at ha;rw[List.pairwise_append,List.pairwise_append];refine⟨⟨ha.1,by simp,fun a h1 b h2=>by simp at h2;subst h2;exact hb a h1⟩,ha.2.1,fun a h1 b h2=>?_⟩;rcases yD.1 h1 with h1 |h1;exact ha.2.2 a h1 b h2;simp at h1;subst h1;exact hd b h2
 by_cases aE:j<l.length;obtain⟨x,bp,gU⟩:=eI aE;have h1:=hx x bp;simp only[gS aE,zC,cH,bp,aP,LI];by_cases e:x=s;subst e;simp only[yC,zC];exact⟨l,rfl,fun y=>⟨fun h=>.inr h,fun h=>h.elim (fun h=>h ▸ gU) id⟩,by omega,ha⟩;simp only[e,yB,zD];have h2:kT s x=true:=by rcases h3:kT s x with _|_;exact absurd (qla x s h1 h3) e;rfl
 refine ins fun y hy=>?_;rw[aX bp]at hy;rcases zI.1 hy with rfl |hy
 exact h2;have:l=l.take (j+1)++l.drop (j+1):=(List.take_append_drop _ _).symm;unfold fV at ha;rw[this,List.pairwise_append]at ha;exact qlb _ _ _ h2 (ha.2.2 x (by rw[j5 bp];simp) y hy);simp only[hZ aE,zD,aP];exact ins fun y hy=>by rw[bV aE]at hy;cases hy
def TQ{l:I Str}(hl:l.length<=1000000)(ha:fV l){s:Str}:∀(m i:Nat),l.length-i<m->i<=l.length->(∀x∈l.take i,kT x s=true)->∃out,Ii l s m i=some out/\(∀x,x∈out↔x=s\/x∈l)/\out.length<=l.length+1/\fV out
 |0,i,hm,_,_=>by omega
 |m+1,i,hm,hi,hb=>by
  unfold Ii;by_cases aE:i<l.length;obtain⟨x,hx,_⟩:=eI aE;simp only[gS aE,zC,cH,hx,aP,iG aE (show l.length<=9223372036854775807 by omega)];cases Cr:kT x s with
  |true=>
   simp only[zC];refine TQ hl ha m (i+1) (by omega) (by omega) fun y hy=>?_;rw[j5 hx]at hy;rcases yD.1 hy with hy |hy
   exact hb y hy;simp at hy;subst hy;exact Cr
  |false=>simp only[zD];exact zak hl ha hi hb fun y hy=>by rw[hx]at hy;cases hy;exact Cr
  simp only[hZ aE,zD,aP];exact zak hl ha hi hb fun y hy=>by have:=(zG.1 hy).1;omega
def Gb(hl:l.length<=1000000)(ha:fV l)(s:Str)(hn:l.length<n):∃out,OX n l s=some out/\(∀x,x∈out↔x=s\/x∈l)/\out.length<=l.length+1/\fV out:=by have:=TQ hl ha (s:=s) n 0 (by omega) (by omega) (by simp);rw[zV]at this;exact this
structure y8(l0 l:I Str)(out:I Str):Prop where
 mem:∀x,x∈out↔x∈l0\/x∈l
 len:out.length<=l0.length+l.length
 asc:fV out
def y8.next{l0 out pU:I Str}(h:y8 l0 l out)(h1:∀x,x∈pU↔x=s\/x∈out)(h2:pU.length<=out.length+1)(h3:fV pU):y8 l0 (l++[s]) pU:=by refine⟨fun x=>?_,by have:=h.len;simp;omega,h3⟩;rw[h1,h.mem];simp only[yD,List.mem_singleton];constructor;rintro(h |h |h);exact .inr (.inr h);exact .inl h;exact .inr (.inl h);rintro(h |h |h);exact .inr (.inl h);exact .inr (.inr h);exact .inl h
def y8.nil(h:fV l):y8 l [] l:=⟨fun x=>by simp,by simp,h⟩
def names_ok(hd:d.length<=1000)(hn:5000<=n):∃out,Ri n d=some out/\y8 [] (d.map bL.Name) out:=by
 have:=jR (l:=d) (by omega) (F:=fun m z s=>ZQ d n m s z) (fun i s=>y8 [] ((d.take i).map bL.Name) s) (Q:=fun out=>y8 [] (d.map bL.Name) out)
  (fun m i x s hx aE bG hw hI ih=>by have hl:=hI.len;simp at hl;obtain⟨o,h1,h2,h3,h4⟩:=Gb (l:=s) (by omega) hI.asc x.Name (show s.length<n by omega);simp only[ZQ,bG,zC,cH,hx,aP,h1,hw];exact ih o (by rw[j5 hx,List.map_append];exact hI.next h2 h3 h4))
  (fun m s bG hI=>by simp only[ZQ,bG,zD,uo];rw[zW (zF _)]at hI;exact⟨s,rfl,hI⟩) n 0 [] (by omega) (by omega) (y8.nil List.Pairwise.nil)
 rw[zV]at this;exact this
def z8z(hd:d.length<=12)(hn:5000<=n):∃e,Rh n d=some e/\(e=0->∀x∈d,x.Supers.length<=256/\x.Feats.length<=256):=by
 have:=jR (l:=d) (by omega) (F:=fun m z (_:Unit)=>ZN d m z) (fun i _=>∀x∈d.take i,x.Supers.length<=256/\x.Feats.length<=256) (Q:=fun e=>e=0->∀x∈d,x.Supers.length<=256/\x.Feats.length<=256)
  (fun m i x _ hx aE bG hw hI ih=>by
   simp only[ZN,bG,zC,cH,hx,aP,hw];by_cases h1:(x.Supers.length:Int)>256;simp only[h1,yC,zC,aP];exact⟨7,rfl,fun h=>by cases h⟩;by_cases h2:(x.Feats.length:Int)>256;simp only[h1,h2,yC,yB,zC,zD,aP];exact⟨7,rfl,fun h=>by cases h⟩;simp only[h1,h2,yB,zD,aP];refine ih () fun y hy=>?_;rw[j5 hx]at hy;rcases yD.1 hy with hy |hy
   exact hI y hy;simp at hy;subst hy;omega)
  (fun m _ bG hI=>by simp only[ZN,bG,zD,uj];rw[zW (zF _)]at hI;exact⟨0,rfl,fun _=>hI⟩) n 0 () (by omega) (by omega) (by simp)
 rw[zV]at this;have h:¬ (d.length:Int)>256:=by omega
 simp only[Rh,h,yB,zD];exact this
def zc2(s:Str)(hn:40<=n):∃r,Qw n s=some r/\(r=true->0<s.length/\s.length<=32):=by obtain⟨r,h1,h2⟩:=qzd s false hn;exact⟨r,by simp[Qw,h1,aP],h2⟩
structure v04(d:I bL):Prop where
 nod:(d.map bL.Name).Nodup
 len:∀x∈d,0<x.Name.length/\x.Name.length<=32
def z34(hd:d.length<=12)(hn:5000<=n):∃e,yd n d=some e/\(e=0->v04 d):=by
 have:=jR (l:=d) (by omega) (F:=fun m z (_:Unit)=>ZP d n m z) (fun i _=>v04 (d.take i)) (Q:=fun e=>e=0->v04 d)
  (fun m i x _ hx aE bG hw hI ih=>by obtain⟨r,h1,h2⟩:=zc2 x.Name (show 40<=n by omega);simp only[ZP,bG,zC,cH,hx,aP,hw,h1];rcases r with _|_;exact⟨1,rfl,fun h=>by cases h⟩;simp only[Bool.not_true,zD];rcases OQ (d:=d) (by omega) x.Name (show d.length<n by omega)with⟨j,y,g1,g2,g3,g4⟩|⟨g1,g2⟩;simp only[g4,aP];by_cases hj:(j:Int)<(i:Int);simp only[hj,yC,zC];exact⟨4,rfl,fun h=>by cases h⟩;simp only[hj,yB,zD];refine ih () ?_;rw[j5 hx];refine⟨?_,fun z hz=>?_⟩;rw[List.map_append,List.nodup_append];refine⟨hI.nod,by simp,fun a ha b hb e=>?_⟩;simp at hb;subst hb;obtain⟨z,hz,e2⟩:=List.mem_map.1 ha;obtain⟨k,hk,e3⟩:=List.mem_iff_getElem.1 hz;rw[List.length_take]at hk;rw[List.getElem_take]at e3;exact g3 k z (by omega) (by rw[List.getElem?_eq_getElem (by omega),e3]) (e2.trans e);rcases yD.1 hz with hz |hz;exact hI.len z hz;simp at hz;subst hz;exact h2 rfl;exact absurd rfl (g1 x (zX hx)))
  (fun m _ bG hI=>by simp only[ZP,bG,zD,ul];rw[zW (zF _)]at hI;exact⟨0,rfl,fun _=>hI⟩) n 0 () (by omega) (by omega) ⟨by simp,by simp⟩
 rw[zV]at this;exact this
def lK(d:I bL)(s:Str):Prop:=∃x∈d,x.Name=s
def ob(hd:d.length<=1000000)(h:lK d s)(hn:d.length<n):∃(j:Nat)(x:bL),d[j]? = some x/\x.Name=s/\JD n d s=some (j:Int):=by rcases OQ hd s hn with⟨j,x,h1,h2,_,h4⟩|⟨h1,_⟩;exact⟨j,x,h1,h2,h4⟩;obtain⟨x,hx,e⟩:=h;exact absurd e (h1 x hx)
def LL(d:I bL)(x:bL):Prop:=(∀s∈x.Supers,lK d s)/\x.Supers.Nodup
def z6f(hd:d.length<=12)(hs:∀x∈d,x.Supers.length<=256)(hn:5000<=n):∃e,yp n d=some e/\(e=0->∀x∈d,LL d x):=by
 have:=jR (l:=d) (by omega) (F:=fun m z (_:Unit)=>MW d n m z) (fun i _=>∀x∈d.take i,LL d x) (Q:=fun e=>e=0->∀x∈d,LL d x)
  (fun m i x _ hx aE bG hw hI ih=>by
   have gU:=zX hx;have hxs:=hs x gU;simp only[MW,bG,zC,cH,hx,aP];have:=jR (l:=x.Supers) (by omega) (F:=fun m' z (_:Unit)=>ZV d n i (MW d n m) x m' z) (fun k _=>(∀s∈x.Supers.take k,lK d s)/\(x.Supers.take k).Nodup) (Q:=fun e=>e=0->∀x∈d,LL d x)
    (fun m' k s _ hsx tM dL xP jU lH=>by
     simp only[ZV,dL,zC,cH,hsx,aP,xP];rcases OQ (d:=d) (by omega) s (show d.length<n by omega)with⟨j,y,g1,g2,g3,g4⟩|⟨g1,g2⟩;have hj:¬ (j:Int)<0:=by omega
     have fA:=OV (l:=x.Supers.take k) (by simp;omega) s (n:=n) (by simp;omega);simp only[g4,aP,hj,yB,zD,zy (show k<=x.Supers.length by omega),fA];by_cases hm:s∈x.Supers.take k;simp only[hm,yC,zC];exact⟨4,rfl,fun h=>by cases h⟩;simp only[hm,yB,zD];refine lH () ?_;rw[j5 hsx];refine⟨fun t ht=>?_,?_⟩;rcases yD.1 ht with ht |ht;exact jU.1 t ht;simp at ht;subst ht;exact⟨y,zX g1,g2⟩;rw[List.nodup_append];exact⟨jU.2,by simp,fun a ha b hb e=>by simp at hb;subst hb;subst e;exact hm ha⟩;simp only[g2,aP];exact⟨5,rfl,fun h=>by cases h⟩)
    (fun m' _ dL jU=>by
     simp only[ZV,dL,zD,ss,hw];rw[zW (zF _)]at jU;refine ih () fun y hy=>?_;rw[j5 hx]at hy;rcases yD.1 hy with hy |hy
     exact hI y hy;simp at hy;subst hy;exact jU) n 0 () (by omega) (by omega) ⟨by simp,by simp⟩
   rw[zV]at this;exact this)
  (fun m _ bG hI=>by simp only[MW,bG,zD,su];rw[zW (zF _)]at hI;exact⟨0,rfl,fun _=>hI⟩) n 0 () (by omega) (by omega) (by simp)
 rw[zV]at this;exact this
def z8s{x:bL}(hs:x.Supers.length<=256)(hl:l.length<=1000)(hn:5000<=n):yb n x l=some (decide (∀s∈x.Supers,s∈l)):=by
 have:=jR (l:=x.Supers) (by omega) (F:=fun m z (_:Unit)=>ZO x l n m z) (fun i _=>∀s∈x.Supers.take i,s∈l) (Q:=fun b=>b=decide (∀s∈x.Supers,s∈l))
  (fun m i s _ hx aE bG hw hI ih=>by
   simp only[ZO,bG,zC,cH,hx,aP,hw,OV (l:=l) (by omega) s (n:=n) (by omega)];by_cases hm:s∈l;simp only[hm,yC,Bool.not_true,zD];refine ih () fun t ht=>?_;rw[j5 hx]at ht;rcases yD.1 ht with ht |ht
   exact hI t ht;simp at ht;subst ht;exact hm;simp only[hm,yB,Bool.not_false,zC];exact⟨false,rfl,(decide_eq_false fun h=>hm (h s (zX hx))).symm⟩)
  (fun m _ bG hI=>by simp only[ZO,bG,zD,uk];rw[zW (zF _)]at hI;exact⟨true,rfl,(decide_eq_true hI).symm⟩) n 0 () (by omega) (by omega) (by simp)
 rw[zV]at this;obtain⟨r,h1,h2⟩:=this;rw[<-h2];exact h1
inductive Ord(d:List bL):List Str->Prop
 |nil:Ord d []
 |snoc {l:List Str} {x:bL}:Ord d l->x∈d->x.Name ∉ l->(∀s∈x.Supers,s∈l)->Ord d (l++[x.Name])
def Ord.nodup(h:Ord d l):l.Nodup/\∀s∈l,lK d s:=by induction h with|nil=>simp| @snoc l x h1 h2 h3 h4 ih=>refine⟨?_,fun s hs=>?_⟩;rw[List.nodup_append];exact⟨ih.1,by simp,fun a ha b hb e=>by simp at hb;subst hb;subst e;exact h3 ha⟩;rcases yD.1 hs with hs |hs;exact ih.2 s hs;simp at hs;subst hs;exact⟨x,h2,rfl⟩
def Qc:∀{a b:I Str},a.Nodup->(∀x∈a,x∈b)->a.length<=b.length
 |[],b,_,_=>by simp
 |x::a,b,hn,hs=>by
  obtain⟨h1,h2⟩:=List.nodup_cons.1 hn;have h3:=Qc (b:=b.erase x) h2 fun y hy=>by have:y≠x:=fun e=>h1 (e ▸ hy);exact(List.mem_erase_of_ne this).2 (hs y (List.mem_cons_of_mem x hy))
  have h4:=List.length_erase_of_mem (hs x (by simp));have h5:=List.length_pos_of_mem (hs x (by simp));simp only[zO];omega
def Ord.len(h:Ord d l):l.length<=d.length:=by
 have:=Qc (b:=d.map bL.Name) h.nodup.1 fun s hs=>by obtain⟨x,hx,rfl⟩:=h.nodup.2 s hs;exact List.mem_map_of_mem hx
 rwa [yA]at this
def z5d(hd:d.length<=12)(hs:∀x∈d,x.Supers.length<=256)(hn:5000<=n):∃l,yq n d=some l/\Ord d l:=by
 have key:∀(m:Nat)(b:Bool)(l:I Str),d.length-l.length+2<=m+(cond b 0 1)->Ord d l->∃r,JG d n m b l=some r/\Ord d r:=by
  intro m;induction m with
  |zero=>intro b l hm;cases b<;>simp at hm<;>omega|succ m ih=>
   intro b l hm hl;have B4:=hl.len;unfold JG;rcases b with _|_;simp only[zD,sx];exact⟨l,rfl,hl⟩;simp only[zC]at hm ⊢;have:=jR (l:=d) (by omega) (F:=fun m' z (s:Bool×Str)=>MX d n l (JG d n m) m' s.1 s.2 z) (fun i s=>s.1=true->∃x∈d,x.Name=s.2/\x.Name ∉ l/\∀t∈x.Supers,t∈l) (Q:=fun r=>Ord d r)
    (fun m' i x s hx aE bG hw hI lH=>by
     have gU:=zX hx;simp only[MX,bG,zC,cH,hx,aP,hw,OV (l:=l) (by omega) x.Name (n:=n) (by omega),z8s (hs x gU) (show l.length<=1000 by omega) hn];by_cases h1:x.Name∈l;simp only[h1,yC,zC,aP];exact lH (s.1,s.2) hI;by_cases h2:∀t∈x.Supers,t∈l;have e1:decide (∀t∈x.Supers,t∈l)=true:=decide_eq_true h2;simp only[h1,e1,yB,zD,Bool.not_true,aP,Tn,hw];have iB:∃y∈d,y.Name=x.Name/\y.Name ∉ l/\∀t∈y.Supers,t∈l:=⟨x,gU,rfl,h1,h2⟩;cases hb:s.1 with
     |false=>simp only[Bool.not_false,zC,aP];exact lH (true,x.Name) fun _=>iB
     |true=>
      simp only[Bool.not_true,zD,aP];cases kT x.Name s.2 with
      |true=>simp only[zC];exact lH (true,x.Name) fun _=>iB
      |false=>simp only[zD];exact lH (true,s.2) fun _=>hI hb
     have e1:decide (∀t∈x.Supers,t∈l)=false:=decide_eq_false h2;simp only[h1,e1,yB,zD,Bool.not_false,aP,zC];exact lH (s.1,s.2) hI)
    (fun m' s bG hI=>by
     simp only[MX,bG,zD,sw,Tp];rcases hb:s.1 with _|_;simp only[zD];exact ih false l (by simp;omega) hl;obtain⟨x,hx,e,h1,h2⟩:=hI hb;have hl2:Ord d (l++[s.2]):=by rw[<-e];exact .snoc hl hx h1 h2
     have:=hl2.len;simp only[zU,zO,zS]at this;simp only[zC];rw[fO (by omega)];exact ih true (l++[s.2]) (by simp;omega) hl2) n 0 (false,[]) (by omega) (by omega) (fun h=>by cases h)
   rw[zV]at this;exact this
 exact key n true [] (by simp;omega) .nil
structure AB(d:I bL):Prop where
 len:d.length<=12
 siz:∀x∈d,x.Supers.length<=256/\x.Feats.length<=256
 nam:v04 d
 sup:∀x∈d,LL d x
 ord:∃l,Ord d l/\l.length=d.length
 one:(d.filter fun x=>decide (x.Supers=[])).length=1
def z2w(hd:d.length<=12)(hn:5000<=n):∃e,Rj n d=some e/\(e=0->AB d):=by
 obtain⟨e1,a1,a2⟩:=z8z hd hn;simp only[Rj,a1,aP];by_cases h1:e1=0;subst h1;have a3:=a2 rfl;obtain⟨e2,b1,b2⟩:=z34 hd hn;simp only[bne_self_eq_false,zD,b1,aP];by_cases h2:e2=0;subst h2;obtain⟨e3,c1,c2⟩:=z6f hd (fun x hx=>(a3 x hx).1) hn;simp only[bne_self_eq_false,zD,c1,aP];by_cases h3:e3=0;subst h3;simp only[bne_self_eq_false,zD];have:=jR (l:=d) (by omega) (F:=fun m z (s:Int)=>PL d n m s z) (fun i s=>s=(((d.take i).filter fun x=>decide (x.Supers=[])).length:Int)) (Q:=fun e=>e=0->AB d)
  (fun m i x s hx aE bG hw hI ih=>by
   have xS:=List.length_filter_le (fun x:bL=>decide (x.Supers=[])) (d.take i);rw[List.length_take]at xS;simp only[PL,bG,zC,cH,hx,aP,Td,hw];by_cases hz:x.Supers=[];have e0:((x.Supers.length:Int)==0)=true:=by simp[hz]
   have e1:IntKind.i64.wrap (s+1)=s+1:=wr (by omega) (by omega);simp only[e0,zC,e1];refine ih (s+1) ?_;rw[j5 hx,List.filter_append,zU,hI];simp[hz];have e0:((x.Supers.length:Int)==0)=false:=by simp[List.length_eq_zero_iff,hz]
   simp only[e0,zD];refine ih s ?_;rw[j5 hx,List.filter_append,zU,hI];simp[hz])
  (fun m s bG hI=>by
   rw[zW (zF _)]at hI;simp only[PL,bG,zD,uq];by_cases h4:s=1;obtain⟨l,g1,g2⟩:=z5d hd (fun x hx=>(a3 x hx).1) hn;have hl:=g2.len;simp only[h4,bne_self_eq_false,zD,g1,aP];by_cases h5:(l.length:Int)<(d.length:Int);simp only[h5,yC,zC];exact⟨6,rfl,fun h=>by cases h⟩;simp only[h5,yB,zD];exact⟨0,rfl,fun _=>⟨hd,a3,b2 rfl,c2 rfl,⟨l,g2,by omega⟩,by omega⟩⟩;have e4:(s != 1)=true:=by simpa using h4
   simp only[e4,zC];exact⟨1,rfl,fun h=>by cases h⟩) n 0 0 (by omega) (by omega) (by simp)
 rw[zV]at this;exact this;have e4:(e3 != 0)=true:=by simpa using h3
 simp only[e4,zC];exact⟨e3,rfl,fun h=>absurd h h3⟩;have e4:(e2 != 0)=true:=by simpa using h2
 simp only[e4,zC];exact⟨e2,rfl,fun h=>absurd h h2⟩;have e4:(e1 != 0)=true:=by simpa using h1
 simp only[e4,zC];exact⟨e1,rfl,fun h=>absurd h h1⟩
variable{a:Nat}
def wu(h:a<18446744073709551616):IntKind.u64.wrap (a:Int)=(a:Int):=by simp only[IntKind.wrap,IntKind.bits,IntKind.signed];simp;omega
variable{b:Nat}
def R1(ha:a<18446744073709551616)(hb:b<18446744073709551616):GF .u64 (a:Int) (b:Int)=((a&&&b:Nat):Int):=by
 have h:(BitVec.ofInt 64 (a:Int)&&&BitVec.ofInt 64 (b:Int)).toNat=a&&&b:=by simp only[BitVec.ofInt_natCast,BitVec.toNat_and,BitVec.toNat_ofNat];rw[Nat.mod_eq_of_lt ha,Nat.mod_eq_of_lt hb]
 show IntKind.u64.wrap (((BitVec.ofInt 64 (a:Int)&&&BitVec.ofInt 64 (b:Int)).toNat:Nat):Int)=_;rw[h];exact wu (Nat.lt_of_le_of_lt Nat.and_le_left ha)
def orN(ha:a<18446744073709551616)(hb:b<18446744073709551616):Kg .u64 (a:Int) (b:Int)=((a|||b:Nat):Int):=by
 have h:(BitVec.ofInt 64 (a:Int)|||BitVec.ofInt 64 (b:Int)).toNat=a|||b:=by simp only[BitVec.ofInt_natCast,BitVec.toNat_or,BitVec.toNat_ofNat];rw[Nat.mod_eq_of_lt ha,Nat.mod_eq_of_lt hb]
 show IntKind.u64.wrap (((BitVec.ofInt 64 (a:Int)|||BitVec.ofInt 64 (b:Int)).toNat:Nat):Int)=_;rw[h];exact wu (Nat.or_lt_two_pow (n:=64) ha hb)
def Ut(ha:a<18446744073709551616)(hb:b<18446744073709551616):∃c:Nat,SN .u64 (a:Int) (b:Int)=(c:Int)/\(c=0↔a&&&b=a):=by
 refine⟨(BitVec.ofInt 64 (a:Int) &&& ~~~ BitVec.ofInt 64 (b:Int)).toNat,?_,?_⟩;exact wu (BitVec.isLt _);have h1:(BitVec.ofInt 64 (a:Int)&&&BitVec.ofInt 64 (b:Int)).toNat=a&&&b:=by simp only[BitVec.ofInt_natCast,BitVec.toNat_and,BitVec.toNat_ofNat];rw[Nat.mod_eq_of_lt ha,Nat.mod_eq_of_lt hb]
 have h2:(BitVec.ofInt 64 (a:Int)).toNat=a:=by simp only[BitVec.ofInt_natCast,BitVec.toNat_ofNat];exact Nat.mod_eq_of_lt ha
 generalize BitVec.ofInt 64 (a:Int)=x at*;generalize BitVec.ofInt 64 (b:Int)=y at*;rw[<-h1];constructor;intro h;have h3:x &&& ~~~ y=0#64:=BitVec.eq_of_toNat_eq (by simpa using h);have:x&&&y=x:=by ext i hi;have:=congrArg (fun z=>z.getLsbD i) h3;simp[hi]at this ⊢;intro hx;exact this hx
 rw[this,h2];intro h;have h3:x&&&y=x:=BitVec.eq_of_toNat_eq (by rw[h,h2]);have:x &&& ~~~ y=0#64:=by ext i hi;have:=congrArg (fun z=>z.getLsbD i) h3;simp[hi]at this ⊢;intro hx;exact this hx
 rw[this];rfl
def bt(w:Nat):I Int:=if w=0 then[]else[(w:Int)]
def R8:bt 0=[]:=rfl
variable{w:Nat}
def sX(h:w≠0):bt w=[(w:Int)]:=if_neg h
def zb9:((bt w).length:Int)=0↔w=0:=by by_cases h:w=0;simp[h,bt];simp[h,bt]
def Y'{w:Nat}{k:Nat}(hk:k<=1000):∀(j m:Nat),j<=k->j+2<=m->TJ ((w:Int)::List.replicate k 0) m ((j+1:Nat):Int)=some (bt w)
 |0,0,_,h=>by omega
 |0,1,_,h=>by omega
 |0,m+2,_,_=>by
  have e0:IntKind.i64.wrap (((0+1:Nat):Int)-1)=0:=wr (z:=0) (by omega) (by omega);have e1:aB ((w:Int)::List.replicate k 0) 0=some (w:Int):=by simp[aB]
  have e2:decide (((0+1:Nat):Int)>0)=true:=by simp
  have c0:=zy (l:=(w:Int)::List.replicate k 0) (b:=0) (by simp);have c1:=zy (l:=(w:Int)::List.replicate k 0) (b:=1) (by simp);rw[zV,List.take_zero]at c0;rw[TJ,e2,e0,zC,e1,aP,aP];by_cases hw:w=0;have:((w:Int)==0)=true:=by simp[hw]
  rw[this,zC,TJ];simp only[Int.lt_irrefl,yB,zD,aP,Tq,c0,show((0:Int)>0)=False by simp];rw[fO (by simp),hw,R8];have:((w:Int)==0)=false:=by simp[hw]
  rw[this,zD,Tq,show((0+1:Nat):Int)=((1:Nat):Int) by simp,c1,aP,fO (by simp),sX hw];rfl
 |j+1,m,hj,hm=>by
  obtain⟨m,rfl⟩:∃q,m=q+1:=⟨m-1,by omega⟩;have e0:IntKind.i64.wrap (((j+1+1:Nat):Int)-1)=((j+1:Nat):Int):=GK (by omega) (by omega);have e1:aB ((w:Int)::List.replicate k 0) ((j+1:Nat):Int)=some 0:=by rw[cH,zH,List.getElem?_replicate,if_pos (by omega)]
  have e2:decide (((j+1+1:Nat):Int)>0)=true:=by simp;omega
  rw[TJ,e2,e0,zC,e1,aP,aP];exact Y' hk j m (by omega) (by omega)
variable{n:Nat}
def wy(hn:5<=n):MO n [(w:Int)]=some (bt w):=Y' (k:=0) (by omega) 0 n (by omega) (by omega)
def xa(hn:5<=n):MO n []=some []:=by obtain⟨k,rfl⟩:=Nat.exists_eq_add_of_le' hn;rfl
def zc3(hn:5<=n):MO n (bt w)=some (bt w):=by by_cases h:w=0;subst h;exact xa hn;rw[sX h,wy hn,sX h]
def fi(b n:Nat):T1 n (bt b) 0=some (b:Int):=by by_cases h:b=0;subst h;rfl;rw[sX h];rfl
def z9f(ha:a<4096)(hb:b<4096)(hn:5<=n):JC n (bt a) (bt b)=some (bt (a&&&b)):=by obtain⟨k,rfl⟩:=Nat.exists_eq_add_of_le' hn;by_cases h:a=0;subst h;rw[Nat.zero_and];have:=xa (n:=k+5) hn;simp only[JC,R8,Ij,zS,P4,this,aP];rfl;have h1:=R1 (a:=a) (b:=b) (by omega) (by omega);have h2:=wy (w:=a&&&b) (n:=k+5) hn;have e:JC (k+5) [(a:Int)] (bt b)=a8 (T1 (k+5) (bt b) 0) fun fD=>aF ((0+1)*8<=140737488355328/\0+1<=140737488355328) (P4 (k+5) [GF .u64 (a:Int) fD]):=rfl;rw[sX h,e,fi,aP,fO (by omega),P4,h1,h2];rfl
def z8b(ha:a<4096)(hb:b<4096)(hn:5<=n):∃c:Nat,Hz n (bt a) (bt b)=some (bt c)/\(c=0↔a&&&b=a):=by obtain⟨k,rfl⟩:=Nat.exists_eq_add_of_le' hn;by_cases h:a=0;subst h;have:=xa (n:=k+5) hn;refine⟨0,?_,by simp⟩;simp only[Hz,R8,Tg,zS,Je,this,aP];rfl;obtain⟨c,h1,h3⟩:=Ut (a:=a) (b:=b) (by omega) (by omega);have h2:=wy (w:=c) (n:=k+5) hn;have e:Hz (k+5) [(a:Int)] (bt b)=a8 (T1 (k+5) (bt b) 0) fun fD=>aF ((0+1)*8<=140737488355328/\0+1<=140737488355328) (Je (k+5) [SN .u64 (a:Int) fD]):=rfl;refine⟨c,?_,h3⟩;rw[sX h,e,fi,aP,fO (by omega),Je,h1,h2];rfl
def ow(ha:a<4096)(hb:b<4096)(hn:5<=n):Z9 n (bt a) (bt b)=some (decide (a&&&b=a)):=by obtain⟨c,h1,h2⟩:=z8b ha hb hn;rw[Z9,h1,aP];congr 1;rw[Bool.eq_iff_iff,beq_iff_eq,zb9,h2,decide_eq_true_eq]
def jv(ha:a<4096)(hb:b<4096)(hn:5<=n):Rm n (bt a) (bt b)=some (decide (a=b)):=by
 simp only[Rm,ow ha hb hn,ow hb ha hn,aP];by_cases h:a&&&b=a;by_cases h':b&&&a=b;have:a=b:=by rw[<-h,Nat.and_comm,h']
 simp[h,h',this,aP];have:a≠b:=fun e=>h' (by rw[<-e,Nat.and_self]);simp[h,h',this,aP];have:a≠b:=fun e=>h (by rw[<-e,Nat.and_self]);simp[h,this,aP]
def za0{i:Nat}(hw:w<4096)(hi:i<64):Hk n (bt w) (i:Int)=some (w.testBit i):=by
 have e0:decide ((i:Int)<0)=false:=by simp
 have e1:(i:Int).tdiv 64=0:=by rw[Int.tdiv_eq_ediv_of_nonneg (by omega)];omega
 have e2:IntKind.i64.wrap 0=0:=wr (by omega) (by omega);simp only[Hk,e0,zD,aP,e1,e2];by_cases h:w=0;subst h;simp[R8];have e3:decide ((0:Int)>=((bt w).length:Int))=false:=by rw[sX h];simp
 have e4:aB (bt w) 0=some (w:Int):=by rw[sX h];rfl
 have e5:(i:Int).tmod 64=(i:Int):=by rw[Int.tmod_eq_emod_of_nonneg (by omega)];omega
 have e6:IntKind.u64.wrap (i:Int)=(i:Int):=wu (by omega);have e7:min ((i:Int).toNat) IntKind.u64.bits=i:=by rw[zZ];exact Nat.min_eq_left (by show i<=64;omega)
 have e8:(w:Int).fdiv (2^i)=((w/2^i:Nat):Int):=by rw[show(2:Int)^i=((2^i:Nat):Int) by simp,Int.fdiv_eq_ediv_of_nonneg _ (Int.natCast_nonneg _)];rfl
 have aE:w/2^i<18446744073709551616:=Nat.lt_of_le_of_lt (Nat.div_le_self _ _) (by omega);have e9:=R1 (a:=w/2^i) (b:=1) aE (by omega);rw[show((1:Nat):Int)=1 from rfl]at e9;simp only[e3,zD,e4,aP,e5,e6];rw[fO (by omega),e7,e8,e9];congr 1;rw[Bool.eq_iff_iff,beq_iff_eq,Nat.testBit_eq_decide_div_mod_eq,decide_eq_true_eq,Nat.and_one_is_mod];omega
def bl(w:Nat):I Int:=((List.range 64).filter fun i=>w.testBit i).map fun(i:Nat)=>(i:Int)
def zbw(hw:w<4096)(hn:100<=n):ve n (bt w)=some (bl w):=by
 by_cases h:w=0;subst h;obtain⟨k,rfl⟩:=Nat.exists_eq_add_of_le' hn;have e:bl 0=[]:=by simp[bl]
 rw[e];rfl;have tU:IntKind.i64.wrap (64*((bt w).length:Int))=((List.range 64).length:Int):=by rw[sX h,List.length_range];exact wr (by simp) (by simp)
 have:=jR (l:=List.range 64) (by simp) (F:=fun m z s=>PD (bt w) n m z s) (fun i s=>s=(((List.range 64).take i).filter fun i=>w.testBit i).map fun(i:Nat)=>(i:Int)) (Q:=fun r=>r=bl w)
  (fun m i x s hx aE bG xQ hI ih=>by
   have hxi:x=i:=by rw[List.getElem?_range (by simpa using aE)]at hx;exact(Option.some.inj hx).symm
   subst hxi;have bA:s.length<=64:=by rw[hI,yA];refine Nat.le_trans (List.length_filter_le _ _) ?_;rw[List.length_take,List.length_range];omega
   rw[List.length_range]at aE;simp only[PD,tU,bG,zC,za0 hw aE,aP,Sm,xQ];cases hb:w.testBit x with
   |true=>simp only[zC];rw[fO (by omega)];refine ih _ ?_;rw[j5 hx,List.filter_append,List.map_append,hI];simp[hb]|false=>simp only[zD];refine ih _ ?_;rw[j5 hx,List.filter_append,List.map_append,hI];simp[hb])
  (fun m s bG hI=>by simp only[PD,tU,bG,zD,mb];rw[zW (zF _)]at hI;exact⟨s,rfl,hI⟩) n 0 [] (by simp;omega) (by omega) (by simp)
 obtain⟨r,h1,h2⟩:=this;rw[<-h2];rw[zV]at h1;exact h1
def qym(hw:w<4096)(hn:100<=n):Ia n (bt w)=some ((bl w).length:Int):=by rw[Ia,zbw hw hn];rfl
def na(hn:5<=n):P0 n (bt a) (bt b)=some (decide (a=b)):=by
 obtain⟨k,rfl⟩:=Nat.exists_eq_add_of_le' hn;by_cases ha:a=0;subst ha;by_cases hb:b=0;subst hb;rfl;rw[sX hb];simp[R8,P0,Ne.symm hb];by_cases hb:b=0;subst hb;rw[sX ha];simp[R8,P0,ha];have e:P0 (k+5) [(a:Int)] [(b:Int)]=cond ((a:Int) != (b:Int)) (some false) (some true):=rfl;rw[sX ha,sX hb,e];by_cases h:a=b;subst h;simp;have:((a:Int) != (b:Int))=true:=by simp;omega
 simp[this,h]
def Vn{ws:I Nat}(hl:ws.length<=1000)(hn:5000<=n):jp n (ws.map bt) (bt b)=some (decide (b∈ws)):=by
 have:=jR (l:=ws) (by omega) (F:=fun m z (_:Unit)=>Z4 (ws.map bt) (bt b) n m z) (fun i _=>b ∉ ws.take i) (Q:=fun r=>r=decide (b∈ws))
  (fun m i x _ hx aE bG hw hI ih=>by
   have Vw:(ws.map bt)[i]? = some (bt x):=by rw[List.getElem?_map,hx];rfl
   simp only[Z4,yA,bG,zC,cH,Vw,aP,na (a:=x) (b:=b) (n:=n) (by omega),hw];by_cases e:x=b;simp only[e,yC,zC];exact⟨true,rfl,(decide_eq_true (e ▸ zX hx)).symm⟩;simp only[e,yB,zD];refine ih () ?_;rw[j5 hx];simp[hI,Ne.symm e])
  (fun m _ bG hI=>by simp only[Z4,yA,bG,zD,ya];rw[zW (zF _)]at hI;exact⟨false,rfl,(decide_eq_false hI).symm⟩) n 0 () (by omega) (by omega) (by simp)
 obtain⟨r,h1,h2⟩:=this;rw[<-h2];rw[zV]at h1;exact h1
def JI(l:I Nat):Nat:=l.foldl (fun w i=>w|||2^i) 0
def E':∀(l:I Nat)(w:Nat),(∀i∈l,i<12)->w<4096->l.foldl (fun w i=>w|||2^i) w<4096
 |[],w,_,h=>h|i::l,w,hl,h=>E' l _ (fun j hj=>hl j (by simp[hj])) (Nat.or_lt_two_pow (n:=12) h (Nat.pow_lt_pow_right (by omega) (hl i (by simp))))
def zad(j:Nat):∀(l:I Nat)(w:Nat),(l.foldl (fun w i=>w|||2^i) w).testBit j=(w.testBit j||decide (j∈l))
 |[],w=>by simp
 |i::l,w=>by rw[List.foldl_cons,zad j l,Nat.testBit_or,Nat.testBit_two_pow];by_cases e:i=j;subst e;simp;have:¬ j=i:=fun h=>e h.symm;simp[e,this,Bool.or_assoc]
def Uo{l:I Nat}(hl:l.length<=12)(eC:∀i∈l,i<12)(hn:5000<=n):Pl n (l.map fun(i:Nat)=>(i:Int))=some (bt (JI l),0):=by
 have hrep:List.replicate (64:Int).toNat (0:Int)=((0:Nat):Int)::List.replicate 63 0:=rfl;have:=jR (l:=l) (by omega) (F:=fun m z s=>Z5 (l.map fun(i:Nat)=>(i:Int)) n m z s) (fun i s=>s=(((l.take i).foldl (fun w i=>w|||2^i) 0:Nat):Int)::List.replicate 63 0) (Q:=fun r=>r=(bt (JI l),0))
  (fun m i x s hx aE bG hw hI ih=>by
   have E?:=eC x (zX hx);have Vw:(l.map fun(i:Nat)=>(i:Int))[i]? = some (x:Int):=by rw[List.getElem?_map,hx];rfl
   have e1:decide ((x:Int)<0)=false:=by simp
   have e2:decide ((x:Int)>4095)=false:=by simp;omega
   have e3:IntKind.i64.wrap ((x:Int).tdiv 64)=0:=by rw[Int.tdiv_eq_ediv_of_nonneg (by omega),show(x:Int)/64=0 by omega];exact wr (by omega) (by omega)
   have e4:(x:Int).tmod 64=(x:Int):=by rw[Int.tmod_eq_emod_of_nonneg (by omega)];omega
   have e5:IntKind.u64.wrap (x:Int)=(x:Int):=wu (by omega);have e6:min ((x:Int).toNat) IntKind.u64.bits=x:=by rw[zZ];exact Nat.min_eq_left (by show x<=64;omega)
   have hw0:(l.take i).foldl (fun w i=>w|||2^i) 0<4096:=E' _ 0 (fun j hj=>eC j (List.mem_of_mem_take hj)) (by omega);have hp:2^x<4096:=Nat.pow_lt_pow_right (n:=12) (by omega) E?;have e7:IntKind.u64.wrap (1*(2^x:Int))=((2^x:Nat):Int):=by rw[Int.one_mul,show(2:Int)^x=((2^x:Nat):Int) by simp];exact wu (by omega)
   have e8:iU s 0 ((64:Int).toNat) 0=some (((l.take i).foldl (fun w i=>w|||2^i) 0:Nat):Int):=by rw[hI];rfl
   have e9:=orN (a:=(l.take i).foldl (fun w i=>w|||2^i) 0) (b:=2^x) (by omega) (by omega);simp only[Z5,yA,bG,zC,cH,Vw,aP,e1,e2,zD,e3,e4,e5,e6,e7,e8,e9,hw];rw[fO (by omega)];refine ih _ ?_;rw[j5 hx,List.foldl_append,hI];rfl)
  (fun m s bG hI=>by
   simp only[Z5,yA,bG,zD,ye];rw[zW (zF _)]at hI;have h1:MO n s=some (bt (JI l)):=by rw[hI];exact Y' (k:=63) (by omega) 63 n (by omega) (by omega)
   rw[fO (by rw[hI];rfl),h1];exact⟨_,rfl,rfl⟩) n 0 _ (by omega) (by omega) rfl
 obtain⟨r,h1,h2⟩:=this;rw[zV]at h1;rw[Pl,fO (by decide),hrep,<-h2];exact h1
inductive oQ(d:List bL)(s:Str):Str->Prop
 |refl:oQ d s s
 |step {t u:Str} {x:bL}:oQ d s t->x∈d->x.Name=t->u∈x.Supers->oQ d s u
variable{d:I bL}
variable{s:Str}
def oQ.trans{t u:Str}(h:oQ d s t)(h':oQ d t u):oQ d s u:=by induction h' with|refl=>exact h|step _ h2 h3 h4 ih=>exact .step ih h2 h3 h4
structure WL(d:I bL)(P:Str->Prop)(l:I Str):Prop where
 nod:l.Nodup
 mem:∀s∈l,lK d s/\P s
variable{l:I Str}
def WL.len{P:Str->Prop}(h:WL d P l):l.length<=d.length:=by
 have:=Qc (b:=d.map bL.Name) h.nod fun s hs=>by obtain⟨x,hx,rfl⟩:=(h.mem s hs).1;exact List.mem_map_of_mem hx
 rwa [yA]at this
def WL.snoc{d:I bL}{P:Str->Prop}{l:I Str}(h:WL d P l){s:Str}(hn:s ∉ l)(hs:lK d s/\P s):WL d P (l++[s]):=by refine⟨?_,fun t ht=>?_⟩;rw[List.nodup_append];exact⟨h.nod,by simp,fun a ha b hb e=>by simp at hb;subst hb;subst e;exact hn ha⟩;rcases yD.1 ht with ht |ht;exact h.mem t ht;simp at ht;subst ht;exact hs
variable{n:Nat}
def z5g(hl:l.length<=1000)(hn:5000<=n):(∃out,TE n l n [] 0=some out/\y8 [] l out)/\∃out,TF n l n [] 0=some out/\y8 [] l out:=by
 constructor;have:=jR (l:=l) (by omega) (F:=fun m z s=>TE n l m s z) (fun i s=>y8 [] (l.take i) s) (Q:=fun out=>y8 [] l out)
  (fun m i x s hx aE bG hw hI ih=>by have hl:=hI.len;simp at hl;obtain⟨o,h1,h2,h3,h4⟩:=Gb (l:=s) (by omega) hI.asc x (show s.length<n by omega);simp only[TE,bG,zC,cH,hx,aP,h1,hw];exact ih o (by rw[j5 hx];exact hI.next h2 h3 h4))
  (fun m s bG hI=>by simp only[TE,bG,zD,ut];rw[zW (zF _)]at hI;exact⟨s,rfl,hI⟩) n 0 [] (by omega) (by omega) (y8.nil List.Pairwise.nil)
 rw[zV]at this;exact this;have:=jR (l:=l) (by omega) (F:=fun m z s=>TF n l m s z) (fun i s=>y8 [] (l.take i) s) (Q:=fun out=>y8 [] l out)
  (fun m i x s hx aE bG hw hI ih=>by have hl:=hI.len;simp at hl;obtain⟨o,h1,h2,h3,h4⟩:=Gb (l:=s) (by omega) hI.asc x (show s.length<n by omega);simp only[TF,bG,zC,cH,hx,aP,h1,hw];exact ih o (by rw[j5 hx];exact hI.next h2 h3 h4))
  (fun m s bG hI=>by simp only[TF,bG,zD,uy];rw[zW (zF _)]at hI;exact⟨s,rfl,hI⟩) n 0 [] (by omega) (by omega) (y8.nil List.Pairwise.nil)
 rw[zV]at this;exact this
def z77(h:AB d)(hs:lK d s)(hn:5000<=n):∃l,Rk n d s=some l/\fV l/\l.length<=12/\∀x,x∈l↔lK d x/\oQ d x s:=by
 have hd:=h.len;have key:∀(m i:Nat)(l:I Str),d.length+1-i<=m->i<=l.length->WL d (fun x=>oQ d x s) l->s∈l->(∀y∈l.take i,∀x∈d,y∈x.Supers->x.Name∈l)->
   ∃r,MT d n m i l=some r/\fV r/\r.length<=12/\∀x,x∈r↔lK d x/\oQ d x s:=by
  intro m;induction m with
  |zero=>intro i l hm hi hw;have:=hw.len;omega|succ m ih=>
   intro i l hm hi hw K4 eS;have B4:=hw.len;unfold MT;by_cases aE:i<l.length;obtain⟨y,hy,C4⟩:=eI aE;simp only[gS aE,zC];have:=jR (l:=d) (by omega) (F:=fun m' z (l':I Str)=>PM d n i (MT d n m) m' z l') (fun k l'=>WL d (fun x=>oQ d x s) l'/\(∃t,l'=l++t)/\∀x∈d.take k,y∈x.Supers->x.Name∈l') (Q:=fun r=>fV r/\r.length<=12/\∀x,x∈r↔lK d x/\oQ d x s)
    (fun m' k x l' hx tM bG xQ hI lH=>by
     obtain⟨HJ,⟨t,jU⟩,HI⟩:=hI;have gU:=zX hx;have hl'':=HJ.len;have FK:l'[i]? = some y:=by rw[jU,List.getElem?_append_left aE];exact hy
     have Kq:=(h.siz x gU).1;simp only[PM,bG,zC,cH,hx,aP,FK,OV (l:=x.Supers) (by omega) y (n:=n) (by omega),OV (l:=l') (by omega) x.Name (n:=n) (by omega),Te,xQ];by_cases h1:y∈x.Supers;by_cases h2:x.Name∈l';simp only[h1,h2,yC,zC,aP,Bool.not_true,zD];refine lH l' ⟨HJ,⟨t,jU⟩,fun z hz Kl=>?_⟩;rw[j5 hx]at hz;rcases yD.1 hz with hz |hz;exact HI z hz Kl;simp at hz;subst hz;exact h2;simp only[h1,h2,yC,yB,zC,aP,Bool.not_false];rw[fO (by omega)];have hys:=(hw.mem y C4).2;refine lH (l'++[x.Name]) ⟨HJ.snoc h2 ⟨⟨x,gU,rfl⟩,(oQ.step .refl gU rfl h1).trans hys⟩,⟨t++[x.Name],by rw[jU,zT]⟩,fun z hz Kl=>?_⟩;rw[j5 hx]at hz;rcases yD.1 hz with hz |hz;exact List.mem_append_left _ (HI z hz Kl);simp at hz;subst hz;simp;simp only[h1,yB,zD,aP];refine lH l' ⟨HJ,⟨t,jU⟩,fun z hz Kl=>?_⟩;rw[j5 hx]at hz;rcases yD.1 hz with hz |hz;exact HI z hz Kl;simp at hz;subst hz;exact absurd Kl h1)
    (fun m' l' bG hI=>by
     obtain⟨HJ,⟨t,jU⟩,HI⟩:=hI;rw[zW (zF _)]at HI;simp only[PM,bG,zD,ur,iG aE (show l.length<=9223372036854775807 by omega)];refine ih (i+1) l' (by omega) (by rw[jU];simp;omega) HJ (by rw[jU];exact List.mem_append_left _ K4) fun z hz x hx hzx=>?_;rw[jU,List.take_append_of_le_length (by omega),j5 hy]at hz;rcases yD.1 hz with hz |hz
     rw[jU];exact List.mem_append_left _ (eS z hz x hx hzx);simp at hz;subst hz;exact HI x hx hzx) n 0 l (by omega) (by omega) ⟨hw,⟨[],by simp⟩,by simp⟩
   rw[zV]at this;exact this;have jJ:i=l.length:=by omega
   subst jJ;rw[zW (zF _)]at eS;simp only[hZ aE,zD,uu];obtain⟨out,g1,g2⟩:=(z5g (l:=l) (by omega) hn).1;have bA:=g2.len;simp at bA;refine⟨out,g1,g2.asc,by omega,fun x=>?_⟩;rw[g2.mem];simp only[List.not_mem_nil,false_or];constructor;exact fun hx=>hw.mem x hx;rintro⟨_,hu⟩;have:∀{t:Str},oQ d x t->t∈l->x∈l:=by
    intro t ht;induction ht with
    |refl=>exact id|step _ h2 h3 h4 ih=>exact fun hu=>ih (h3 ▸ eS _ hu _ h2 h4)
   exact this hu K4
 obtain⟨j,x,g1,g2,g3⟩:=ob (d:=d) (by omega) hs (n:=n) (by omega);have hj:¬ (j:Int)<0:=by omega
 simp only[Rk,g3,aP,hj,yB,zD];have:=key n 0 [s] (by omega) (by omega) ⟨by simp,fun t ht=>by simp at ht;subst ht;exact⟨hs,.refl⟩⟩ (by simp) (by simp);rw[zV]at this;exact this
def quz(h:v04 d){x y:bL}(hx:x∈d)(hy:y∈d)(e:x.Name=y.Name):x=y:=by
 have:=h.nod;clear h;induction d with
 |nil=>cases hx|cons z d ih=>rw[zQ,List.nodup_cons]at this;rcases zI.1 hx with h1 |h1;rcases zI.1 hy with h2 |h2;rw[h1,h2];exact absurd (List.mem_map.2 ⟨y,h2,by rw[<-e,h1]⟩) this.1;rcases zI.1 hy with h2 |h2;exact absurd (List.mem_map.2 ⟨x,h1,by rw[e,h2]⟩) this.1;exact ih h1 h2 this.2
def z70(h:AB d)(hs:lK d s)(hn:5000<=n):∃l,Rl n d s=some l/\fV l/\l.length<=12/\∀x,x∈l↔lK d x/\oQ d s x:=by
 have hd:=h.len;have key:∀(m i:Nat)(l:I Str),d.length+1-i<=m->i<=l.length->WL d (fun x=>oQ d s x) l->s∈l->(∀y∈l.take i,∀x∈d,x.Name=y->∀u∈x.Supers,u∈l)->
   ∃r,MU d n m i l=some r/\fV r/\r.length<=12/\∀x,x∈r↔lK d x/\oQ d s x:=by
  intro m;induction m with
  |zero=>intro i l hm hi hw;have:=hw.len;omega|succ m ih=>
   intro i l hm hi hw K4 eS;have B4:=hw.len;unfold MU;by_cases aE:i<l.length;obtain⟨y,hy,C4⟩:=eI aE;obtain⟨j,x,g1,g2,g3⟩:=ob (d:=d) (by omega) (hw.mem y C4).1 (n:=n) (by omega);have gU:=zX g1;have Kq:=(h.siz x gU).1;simp only[gS aE,zC,cH,hy,aP,g3,g1];have:=jR (l:=x.Supers) (by omega) (F:=fun m' z (l':I Str)=>PN n i (MU d n m) x m' z l') (fun k l'=>WL d (fun x=>oQ d s x) l'/\(∃t,l'=l++t)/\∀u∈x.Supers.take k,u∈l') (Q:=fun r=>fV r/\r.length<=12/\∀x,x∈r↔lK d x/\oQ d s x)
    (fun m' k u l' hu tM bG xQ hI lH=>by obtain⟨HJ,⟨t,jU⟩,HI⟩:=hI;have NA:=zX hu;have hl'':=HJ.len;simp only[PN,bG,zC,cH,hu,aP,OV (l:=l') (by omega) u (n:=n) (by omega),Tf,xQ];by_cases h2:u∈l';simp only[h2,yC,Bool.not_true,zD];refine lH l' ⟨HJ,⟨t,jU⟩,fun z hz=>?_⟩;rw[j5 hu]at hz;rcases yD.1 hz with hz |hz;exact HI z hz;simp at hz;subst hz;exact h2;simp only[h2,yB,Bool.not_false,zC];rw[fO (by omega)];refine lH (l'++[u]) ⟨HJ.snoc h2 ⟨(h.sup x gU).1 u NA,.step (hw.mem y C4).2 gU g2 NA⟩,⟨t++[u],by rw[jU,zT]⟩,fun z hz=>?_⟩;rw[j5 hu]at hz;rcases yD.1 hz with hz |hz;exact List.mem_append_left _ (HI z hz);simp at hz;subst hz;simp)
    (fun m' l' bG hI=>by
     obtain⟨HJ,⟨t,jU⟩,HI⟩:=hI;rw[zW (zF _)]at HI;simp only[PN,bG,zD,ux,iG aE (show l.length<=9223372036854775807 by omega)];refine ih (i+1) l' (by omega) (by rw[jU];simp;omega) HJ (by rw[jU];exact List.mem_append_left _ K4) fun z hz w xQ bn u hu=>?_;rw[jU,List.take_append_of_le_length (by omega),j5 hy]at hz;rcases yD.1 hz with hz |hz
     rw[jU];exact List.mem_append_left _ (eS z hz w xQ bn u hu);simp at hz;subst hz;have:=quz h.nam xQ gU (bn.trans g2.symm);subst this;exact HI u hu) n 0 l (by omega) (by omega) ⟨hw,⟨[],by simp⟩,by simp⟩
   rw[zV]at this;exact this;have jJ:i=l.length:=by omega
   subst jJ;rw[zW (zF _)]at eS;simp only[hZ aE,zD,uz];obtain⟨out,g1,g2⟩:=(z5g (l:=l) (by omega) hn).2;have bA:=g2.len;simp at bA;refine⟨out,g1,g2.asc,by omega,fun x=>?_⟩;rw[g2.mem];simp only[List.not_mem_nil,false_or];constructor;exact fun hx=>hw.mem x hx;rintro⟨_,hu⟩;clear g1 g2;induction hu with
   |refl=>exact K4|step h1 h2 h3 h4 ih=>exact eS _ (ih ⟨_,h2,h3⟩) _ h2 h3 _ h4
 obtain⟨j,x,g1,g2,g3⟩:=ob (d:=d) (by omega) hs (n:=n) (by omega);have hj:¬ (j:Int)<0:=by omega
 simp only[Rl,g3,aP,hj,yB,zD];have:=key n 0 [s] (by omega) (by omega) ⟨by simp,fun t ht=>by simp at ht;subst ht;exact⟨hs,.refl⟩⟩ (by simp) (by simp);rw[zV]at this;exact this
def zcs(h:AB d){a b:Str}(ha:lK d a)(hb:lK d b)(h1:oQ d a b)(h2:oQ d b a):a=b:=by
 obtain⟨l,hl,bA⟩:=h.ord;have cR:∀s,lK d s->s∈l:=fun s ⟨x,hx,e⟩=>by
  apply Classical.byContradiction;intro hn;have h3:=Qc (a:=s::l) (b:=d.map bL.Name) (List.nodup_cons.2 ⟨hn,hl.nodup.1⟩) fun t ht=>by rcases zI.1 ht with rfl |ht;rw[<-e];exact List.mem_map_of_mem hx;obtain⟨y,hy,rfl⟩:=hl.nodup.2 t ht;exact List.mem_map_of_mem hy
  simp at h3;omega
 have pW:∀{l:I Str},Ord d l->∀s∈l,∀t,oQ d s t->∃l1 l2,l=l1++s::l2/\(t=s\/t∈l1):=by
  intro l hl;induction hl with
  |nil=>intro s hs;cases hs| @snoc l x g1 g2 g3 g4 ih=>
   have eS:∀s∈l,∀t,oQ d s t->t∈l:=fun s hs t ht=>by obtain⟨l1,l2,e1,e2⟩:=ih s hs t ht;rcases e2 with rfl |e2;exact hs;rw[e1];exact List.mem_append_left _ e2
   intro s hs t ht;rcases yD.1 hs with hs |hs;obtain⟨l1,l2,e1,e2⟩:=ih s hs t ht;exact⟨l1,l2++[x.Name],by rw[e1];simp,e2⟩;simp at hs;subst hs;refine⟨l,[],rfl,?_⟩;induction ht with
   |refl=>exact .inl rfl|step _ h2 h3 h4 lH=>rcases lH with e |e;have:=quz h.nam h2 g2 (h3.trans e);subst this;exact .inr (g4 _ h4);exact .inr (eS _ e _ (.step .refl h2 h3 h4))
 obtain⟨l1,l2,e1,e2⟩:=pW hl a (cR a ha) b h1;obtain⟨l3,l4,e3,e4⟩:=pW hl b (cR b hb) a h2;rcases e2 with e2 |e2;exact e2.symm;rcases e4 with e4 |e4;exact e4
 ·-- b ahead of a,and a ahead of b
  have hn:=hl.nodup.1;obtain⟨p,q,e5⟩:=List.append_of_mem e2;rw[e5]at e1;have:l3=p:=by
   have wZ:b ∉ p:=fun hp=>by rw[e1]at hn;simp only[zT,List.cons_append]at hn;rw[List.nodup_append]at hn;exact hn.2.2 b hp b (by simp) rfl
   have u99:b ∉ l3:=fun hp=>by rw[e3,List.nodup_append]at hn;exact hn.2.2 b hp b (by simp) rfl
   rw[e1]at e3;simp only[zT,List.cons_append]at e3;clear e1 hn e5 e4 hl;induction p generalizing l3 with
   |nil=>rcases l3 with _|⟨z,l3⟩;rfl;simp at e3;exact absurd (by rw[e3.1];simp) u99
   |cons y p ihp=>rcases l3 with _|⟨z,l3⟩;simp at e3;exact absurd (by rw[<-e3.1];simp) wZ;simp at e3;rw[<-e3.1,ihp l3 (fun hh=>wZ (List.mem_cons_of_mem _ hh)) (fun hh=>u99 (List.mem_cons_of_mem _ hh)) e3.2]
  rw[this]at e4;rw[e1]at hn;exact absurd rfl ((List.nodup_append.1 hn).2.2 a (List.mem_append_left _ e4) a (by simp))
def qxb(h:AB d)(hl:l.length<=1000)(hn:5000<=n):∃out,um n d l=some out/\fV out/\out.length<=l.length/\∀x∈out,x∈l/\lK d x:=by
 have hd:=h.len;have:=jR (l:=l) (by omega) (F:=fun m z s=>PR d l n m s z) (fun i s=>fV s/\s.length<=i/\∀x∈s,x∈l/\lK d x) (Q:=fun out=>fV out/\out.length<=l.length/\∀x∈out,x∈l/\lK d x)
  (fun m i x s hx aE bG hw hI ih=>by
   obtain⟨i1,i2,i3⟩:=hI;simp only[PR,bG,zC,cH,hx,aP,Tz,hw];rcases OQ (d:=d) (by omega) x (show d.length<n by omega)with⟨j,y,g1,g2,g3,g4⟩|⟨g1,g2⟩;obtain⟨o,h1,h2,h3,h4⟩:=Gb (l:=s) (by omega) i1 x (show s.length<n by omega);have hj:(j:Int)>=0:=by omega
   simp only[g4,aP,hj,yC,zC,h1];refine ih o ⟨h4,by omega,fun z hz=>?_⟩;rcases(h2 z).1 hz with rfl |hz;exact⟨zX hx,y,zX g1,g2⟩;exact i3 z hz;simp only[g2,aP];exact ih s ⟨i1,by omega,i3⟩)
  (fun m s bG hI=>by simp only[PR,bG,zD,pq];exact⟨s,rfl,hI⟩) n 0 [] (by omega) (by omega) ⟨List.Pairwise.nil,by simp,by simp⟩
 rw[zV]at this;exact this
def qrt(h:AB d)(hl:l.length<=1000)(hn:5000<=n):∃out,Ir n d l=some out/\out.length<=l.length/\∀x∈out,x∈l/\lK d x:=by
 obtain⟨all,a1,a2,a3,a4⟩:=qxb h hl hn;have:=jR (l:=all) (by omega) (F:=fun m z s=>JH d n all m z s) (fun i s=>s.length<=i/\∀x∈s,x∈l/\lK d x) (Q:=fun out=>out.length<=l.length/\∀x∈out,x∈l/\lK d x)
  (fun m i x s hx aE bG hw hI ih=>by
   obtain⟨i2,i3⟩:=hI;have gU:=a4 x (zX hx);obtain⟨up,u1,u2,u3,u4⟩:=z70 h gU.2 hn;simp only[JH,bG,zC,cH,hx,aP,u1];have:=jR (l:=all) (by omega) (F:=fun m' z b=>ZY n all i s (JH d n all m) up m' b z) (fun _ _=>True) (Q:=fun out=>out.length<=l.length/\∀x∈out,x∈l/\lK d x)
    (fun m' k y b hy tM dL xP _ lH=>by
     simp only[ZY,dL,zC,xP,cH,hy,aP,OV (l:=up) (by omega) y (n:=n) (by omega)];cases b with
     |true=>rcases((k:Int)==(i:Int))with _|_;exact lH _ trivial;exact lH true trivial
     |false=>exact lH false trivial)
    (fun m' b dL _=>by
     simp only[ZY,dL,zD,pd,Tv,hw,cH,hx,aP];cases b with
     |true=>simp only[zC];rw[fO (by omega)];refine ih (s++[x]) ⟨by simp;omega,fun z hz=>?_⟩;rcases yD.1 hz with hz |hz;exact i3 z hz;simp at hz;subst hz;exact gU
     |false=>exact ih s ⟨by omega,i3⟩) n 0 true (by omega) (by omega) trivial
   rw[zV]at this;exact this)
  (fun m s bG hI=>by simp only[JH,bG,zD,pe];exact⟨s,rfl,by omega,hI.2⟩) n 0 [] (by omega) (by omega) ⟨by simp,by simp⟩
 rw[zV]at this;rw[Ir,a1];exact this
end Go.Proofs
