import Derived.Test.YtmflfedkfdkipaaGreatP18
set_option linter.all false
set_option maxRecDepth 10000
open List Go.IntKind
open Nat hiding beq_eq
namespace Go.Proofs
open Go Go.Rx Go.Vx Go.Shelf Go.Sort
abbrev cb:=X Yv
def jG{b S R:Type}{l:X b}(f:l.length<=9223372036854775807){F:Nat->Int->S->V R}(a:Nat->S->Prop){Q:R->Prop}
  (h:∀(m i:Nat)(x:b)(s:S),l[i]? = some x->i<l.length->decide ((i:Int)<(l.length:Int))=true->i64.wrap ((i:Int)+1)=((i+1:Nat):Int)->a i s->(∀d,a (i+1) d->∃r,F m ((i+1:Nat):Int) d=some r/\Q r)->∃r,F (m+1) (i:Int) s=some r/\Q r) (e:∀(m:Nat)(s:S),decide ((l.length:Int)<(l.length:Int))=false->a l.length s->∃r,F (m+1) (l.length:Int) s=some r/\Q r):
  ∀(m i:Nat)(s:S),l.length-i<m->i<=l.length->a i s->∃r,F m (i:Int) s=some r/\Q r
 |0,i,s,hm,_,_=>by omega
 |m+1,i,s,hm,n,g=>by
  by_cases c:i<l.length;have⟨x,k,_⟩:=fJ c;exact h m i x s k c (iU c) (kE c f) g fun d j=>jG f a h e m (i+1) d af af j;have:i=l.length:=by omega
  subst this;exact e m s (j9 af) g
def gW{a:Type}{p:Prop}[Decidable p]{k:V a}(h:p):aE p k=k:=lr h
def beqF{a b:cb}(h:a≠b):mR a b=false:=by rcases e:mR a b with _|_;rfl;exact absurd ((qi4 _ _).1 e) h
def MK(a b:cb):mR a b=decide (a=b):=by by_cases h:a=b;rw[(qi4 _ _).2 h];simp[h];rw[beqF h];simp[h]
variable{A:Type}{l:X A}
def za3{a b:Nat}(c:a<=b)(d:b<=l.length):sX l (a:Int) (b:Int)=some ((l.drop a).take (b-a)):=by
 unfold sX;have:0<=(a:Int)/\(a:Int)<=(b:Int)/\(b:Int)<=(l.length:Int):=by omega
 simp[this,drop_take]
def sj{b:Nat}(a:b<=l.length):sX l 0 (b:Int)=some (l.take b):=by
 have:=za3 (l:=l) (qq b) a
 rwa [zV,Za,wm]at this
def lm{a:Nat}(b:a<=l.length):sX l (a:Int) (l.length:Int)=some (l.drop a):=by
 have:=za3 (l:=l) b (zF _)
 rwa [zW aZ]at this
def zcu(n:Nat)(z:Int)(b:FK):∃r,Wa n z b=some r:=by simp only[Wa,Ct,dj,Wv];cases decide (z>=48)<;>cases decide (z<=57)<;>cases (z==45)<;>cases b<;>cases decide (z>=65)<;>cases decide (z<=90)<;>cases decide (z>=97)<;>cases decide (z<=122)<;>exact⟨_,rfl⟩
variable{s:cb}
def qz0{i:Nat}{x:Yv}(h:s[i]? = some x):Bf s (i:Int)=some (x.toNat:Int):=by
 have:=(zG.1 h).1;have a:0<=(i:Int)/\(i:Int)<(s.length:Int):=by omega
 simp[Bf,a,h]
variable{n:Nat}
def qy0(s:cb)(b:FK)(u:40<=n):∃r,Oc n s b=some r/\(r=true->0<s.length/\s.length<=32):=by
 unfold Oc;by_cases e:(s.length:Int)<1;simp only[e,yC,zC,aN];exact⟨false,rfl,fun h=>by cases h⟩;by_cases g:(s.length:Int)>32;simp only[e,g,yC,yB,zC,zD,aN];exact⟨false,rfl,fun h=>by cases h⟩;have⟨x,f,_⟩:=fJ (show 0<s.length by omega);have j:=qz0 f;rw[zV]at j;have a:∃r,Ct n (x.toNat:Int)=some r:=by unfold Ct;cases decide ((x.toNat:Int)>=48)<;>exact⟨_,rfl⟩
 have⟨c,k⟩:=a;have key:=jG (l:=s) af (F:=fun m z (_:Unit)=>Dl s b n m z) (fun _ _=>True) (Q:=fun r=>True)
  (fun m i x _ f t a o _ p=>by have⟨r,v⟩:=zcu n (x.toNat:Int) b;obtain⟨q,d,_⟩:=p () trivial;simp only[Dl,a,zC,qz0 f,aN,v,o];obtain _|_:=r;exact⟨_,rfl,trivial⟩;exact⟨q,d,trivial⟩)
  (fun m _ a _=>by simp only[Dl,a,zD,ol];exact⟨_,rfl,trivial⟩) n 0 () af af trivial
 have⟨q,d,_⟩:=key;rw[zV]at d;simp only[e,g,yB,zD,j,aN,k];cases c with
 |true=>simp only[zC,aN];exact⟨false,rfl,fun h=>by cases h⟩|false=>simp only[zD,aN];rcases((x.toNat:Int)==45)with _|_;exact⟨q,d,fun _=>af⟩;exact⟨false,rfl,fun h=>by cases h⟩
def za7{d:X bG}(t:d.length<=1000000){s:cb}:∀(m i:Nat),d.length-i<m->i<=d.length->
  (∃j x,i<=j/\d[j]? = some x/\x.Name=s/\(∀k y,i<=k->k<j->d[k]? = some y->y.Name≠s)/\Cz d s m i=some (j:Int))\/((∀x∈d.drop i,x.Name≠s)/\Cz d s m i=some (-1))
 |0,i,hm,_=>by omega
 |m+1,i,hm,w=>by unfold Cz;by_cases b:i<d.length;obtain⟨x,a,_⟩:=fJ b;simp only[iU b,zC,c9,a,aN,kE b (show d.length<=9223372036854775807 by omega),MK];by_cases c:x.Name=s;simp only[c,yC,zC];exact .inl ⟨i,x,zF _,a,c,fun k y h f=>af,rfl⟩;simp only[c,yB,zD];obtain⟨j,y,h,f,p,q,r⟩|⟨h,f⟩:=za7 t (s:=s) m (i+1) af af;refine .inl ⟨j,y,by omega,f,p,fun k z v u o=>?_,r⟩;by_cases e:k=i;subst e;rw[a]at o;cases o;exact c;exact q k z af u o;refine .inr ⟨fun y g=>?_,f⟩;rw[bC a]at g;obtain rfl |g:=zI.1 g;exact c;exact h y g;simp only[j9 b,zD,fv,bW b];exact .inr ⟨fun x a=>(oC a).elim,by simp⟩
variable{d:X bG}
def tz(g:d.length<=1000000)(s:cb)(m:d.length<n):
  (∃(j:Nat)(x:bG),d[j]? = some x/\x.Name=s/\(∀k y,k<j->d[k]? = some y->y.Name≠s)/\JQ n d s=some (j:Int))\/((∀x∈d,x.Name≠s)/\JQ n d s=some (-1)):=by obtain⟨j,y,_,a,c,e,f⟩|⟨b,a⟩:=za7 g (s:=s) n 0 af af;exact .inl ⟨j,y,a,c,fun k z h i=>e k z af h i,f⟩;exact .inr ⟨by rw[Za]at b;exact b,a⟩
def z0x{l:X cb}(f:l.length<=1000000){s:cb}:∀(m i:Nat),l.length-i<m->i<=l.length->Pb l s m i=some (decide (s∈l.drop i))
 |0,i,hm,_=>by omega
 |m+1,i,hm,g=>by unfold Pb;by_cases a:i<l.length;obtain⟨x,b,_⟩:=fJ a;simp only[iU a,zC,c9,b,aN,bC b,zI,kE a (show l.length<=9223372036854775807 by omega),MK];by_cases e:x=s;simp[e];have c:¬ s=x:=fun h=>e h.symm;simp only[e,c,yB,zD,HZ];exact z0x f m (i+1) af af;simp only[j9 a,zD,ob,bW a,oC,yB]
variable{l:X cb}
def QO(a:l.length<=1000000)(s:cb)(b:l.length<n):HW n l s=some (decide (s∈l)):=by have:=z0x a (s:=s) n 0 af af;rw[zV,Za]at this;exact this
def fM(l:X cb):Prop:=l.Pairwise fun a b=>lP a b=true
def fM.nodup(h:fM l):l.Nodup:=h.imp fun{a b} h e=>by subst e;rw[qhq]at h;cases h
def zaz(B:l.length<=1000000)(g:fM l){j:Nat}(r:j<=l.length)(v:∀x∈l.take j,lP x s=true)(z:∀x,l[j]? = some x->lP x s=false):∃out,Xb l s j=some out/\(∀x,x∈out↔x=s\/x∈l)/\out.length<=l.length+1/\fM out:=by
 unfold Xb;have tl:(l.take j).length=j:=by simp;omega
 have dl:(l.drop j).length=l.length-j:=by simp
 have m:(∀x∈l.drop j,lP s x=true)->∃out,(a8 (sX l 0 (j:Int)) fun k=>
  aE (k.length*16<=140737488355328/\k.length<=140737488355328) (
  aE ((k.length+1)*16<=140737488355328/\k.length+1<=140737488355328) (
  a8 (sX l (j:Int) (l.length:Int)) fun q=>
  aE (((k++[s]).length+q.length)*16<=140737488355328/\(k++[s]).length+q.length<=140737488355328) (
  some ((k++[s])++q)))))=some out/\(∀x,x∈out↔x=s\/x∈l)/\out.length<=l.length+1/\fM out:=by
  intro w;refine⟨(l.take j++[s])++l.drop j,?_,fun x=>?_,by simp;omega,?_⟩;rw[sj r,aN,gW (by rw[tl];omega),gW (by rw[tl];omega),lm r,aN,gW (by rw[zU,tl,dl];simp;omega)];have:=l7 j l;constructor;intro h;simp only[yD,qa]at h;rcases h with(h |h)|h;exact .inr<|Ey h;exact .inl h;exact .inr<|A' h;rintro(h |h);simp[h];rw[<-this]at h;simp only[yD]at h ⊢;obtain h |h:=h;exact .inl<|.inl h;exact .inr h;unfold fM at*;rw[<-l7 j l,oy]at g;rw[oy,oy];refine⟨⟨g.1,by simp,fun a c b f=>by simp at f;subst f;exact v a c⟩,g.2.1,fun a c b f=>?_⟩;obtain c |c:=yD.1 c;exact g.2.2 a c b f;simp at c;subst c;exact w b f
 by_cases p:j<l.length;obtain⟨x,o,t⟩:=fJ p;have c:=z x o;simp only[iU p,zC,c9,o,aN,MK];by_cases e:x=s;subst e;simp only[yC,zC];exact⟨l,rfl,fun y=>⟨fun h=>.inr h,fun h=>h.elim (fun h=>h ▸ t) id⟩,by omega,g⟩;simp only[e,yB,zD];have f:lP s x=true:=by rcases u:lP s x with _|_;exact absurd (qj0 x s c u) e;rfl
 refine m fun y i=>?_;rw[bC o]at i;obtain rfl |i:=zI.1 i
 exact f;have:l=l.take (j+1)++l.drop (j+1):=(l7 _ _).symm;unfold fM at g;rw[this,oy]at g;exact qj1 _ _ _ f (g.2.2 x (by rw[jB o];simp) y i);simp only[j9 p,zD,aN];exact m fun y i=>by rw[bW p]at i;cases i
def VW{l:X cb}(f:l.length<=1000000)(c:fM l){s:cb}:∀(m i:Nat),l.length-i<m->i<=l.length->(∀x∈l.take i,lP x s=true)->∃out,Oi l s m i=some out/\(∀x,x∈out↔x=s\/x∈l)/\out.length<=l.length+1/\fM out
 |0,i,hm,_,_=>by omega
 |m+1,i,hm,j,e=>by
  unfold Oi;by_cases b:i<l.length;have⟨x,g,_⟩:=fJ b;simp only[iU b,zC,c9,g,aN,kE b<|show l.length<=9223372036854775807 by omega];cases h:lP x s with
  |true=>
   simp[zC];refine VW f c m (i+1) af af fun y a=>?_;rw[jB g]at a;obtain a |a:=yD.1 a
   exact e y a;simp at a;subst a;exact h
  |false=>simp[zD];exact zaz f c j e fun y a=>by rw[g]at a;cases a;exact h
  simp only[j9 b,zD,aN];exact zaz f c j e fun y a=>by have:=(zG.1 a).1;omega
def Mp(b:l.length<=1000000)(a:fM l)(s:cb)(c:l.length<n):∃out,QS n l s=some out/\(∀x,x∈out↔x=s\/x∈l)/\out.length<=l.length+1/\fM out:=by have:=VW b a (s:=s) n 0 af af aZ;rw[zV]at this;exact this
structure yX(l0 l:X cb)(out:X cb):Prop where
 mem:∀x,x∈out↔x∈l0\/x∈l
 len:out.length<=l0.length+l.length
 o6:fM out
def yX.next{b out a:X cb}(h:yX b l out)(c:∀x,x∈a↔x=s\/x∈out)(f:a.length<=out.length+1)(e:fM a):yX b (l++[s]) a:=by refine⟨fun x=>?_,by have:=h.len;simp;omega,e⟩;rw[c,h.mem];simp[yD,qa];constructor;rintro(h |h |h);exact .inr<|.inr h;exact .inl h;exact .inr<|.inl h;rintro(h |h |h);exact .inr<|.inl h;exact .inr<|.inr h;exact .inl h
def yX.nil(h:fM l):yX l [] l:=⟨fun x=>aZ,by simp,h⟩
def U5(r:d.length<=1000)(t:5000<=n):∃out,Wq n d=some out/\yX [] (d.map bG.Name) out:=by
 have:=jG (l:=d) af (F:=fun m z s=>Dk d n m s z) (fun i s=>yX [] ((d.take i).map bG.Name) s) (Q:=fun out=>yX [] (d.map bG.Name) out)
  (fun m i x s c q b k a p=>by have j:=a.len;simp at j;have⟨o,e,f,g,h⟩:=Mp (l:=s) af a.o6 x.Name (show s.length<n by omega);simp only[Dk,b,zC,c9,c,aN,e,k];exact p o (by rw[jB c,y_];exact a.next f g h))
  (fun m s b a=>by simp only[Dk,b,zD,nk];rw[zW<|zF _]at a;exact⟨s,rfl,a⟩) n 0 [] af af (yX.nil Pairwise.nil)
 rw[zV]at this;exact this
def z90(q:d.length<=12)(r:5000<=n):∃e,Wp n d=some e/\(e=0->∀x∈d,x.F5.length<=256/\x.E6.length<=256):=by
 have:=jG (l:=d) af (F:=fun m z (_:Unit)=>Dh d m z) (fun i _=>∀x∈d.take i,x.F5.length<=256/\x.E6.length<=256) (Q:=fun e=>e=0->∀x∈d,x.F5.length<=256/\x.E6.length<=256)
  (fun m i x _ j p c k b o=>by
   simp only[Dh,c,zC,c9,j,aN,k];by_cases f:(x.F5.length:Int)>256;simp only[f,yC,zC,aN];exact⟨7,rfl,fun h=>by cases h⟩;by_cases g:(x.E6.length:Int)>256;simp only[f,g,yC,yB,zC,zD,aN];exact⟨7,rfl,fun h=>by cases h⟩;simp[f,g,yB,zD,aN];refine o () fun y a=>?_;rw[jB j]at a;obtain a |a:=yD.1 a
   exact b y a;simp at a;subst a;omega)
  (fun m _ c b=>by simp only[Dh,c,zD,ng];rw[zW<|zF _]at b;exact⟨0,rfl,fun _=>b⟩) n 0 () af af aZ
 rw[zV]at this;have h:¬ (d.length:Int)>256:=by omega
 simp[Wp,h,yB,zD];exact this
def zcj(s:cb)(c:40<=n):∃r,Wb n s=some r/\(r=true->0<s.length/\s.length<=32):=by have⟨r,a,b⟩:=qy0 s false c;exact⟨r,by simp[Wb,a,aN],b⟩
structure Um(d:X bG):Prop where
 gR:(d.map bG.Name).Nodup
 len:∀x∈d,0<x.Name.length/\x.Name.length<=32
def z1v(J:d.length<=12)(K:5000<=n):∃e,dg n d=some e/\(e=0->Um d):=by
 have:=jG (l:=d) af (F:=fun m z (_:Unit)=>Dj d n m z) (fun i _=>Um<|d.take i) (Q:=fun e=>e=0->Um d)
  (fun m i x _ o I g G f H=>by have⟨r,B,C⟩:=zcj x.Name (show 40<=n by omega);simp only[Dj,g,zC,c9,o,aN,G,B];obtain _|_:=r;exact⟨1,rfl,fun h=>by cases h⟩;simp only[Zr,zD];rcases tz (d:=d) af x.Name (show d.length<n by omega)with⟨j,y,g1,g2,v,w⟩|⟨g1,g2⟩;simp only[w,aN];by_cases t:(j:Int)<(i:Int);simp only[t,yC,zC];exact⟨4,rfl,fun h=>by cases h⟩;simp[t,yB,zD];apply H ();rw[jB o];refine⟨?_,fun z c=>?_⟩;rw[y_,fF];refine⟨f.gR,by simp,fun a D b q e=>?_⟩;simp at q;subst q;have⟨z,c,u⟩:=mem_map.1 D;have⟨k,E,p⟩:=mem_iff_getElem.1 c;rw[Yz]at E;rw[getElem_take]at p;exact v k z af (by rw[lq af,p])<|u.trans e;obtain c |c:=yD.1 c;exact f.len z c;simp at c;subst c;exact C rfl;exact absurd rfl (g1 x<|zX o))
  (fun m _ g f=>by simp only[Dj,g,zD,ni];rw[zW<|zF _]at f;exact⟨0,rfl,fun _=>f⟩) n 0 () af af ⟨by simp,by simp⟩
 rw[zV]at this;exact this
def m9(d:X bG)(s:cb):Prop:=∃x∈d,x.Name=s
def qq9(f:d.length<=1000000)(h:m9 d s)(g:d.length<n):∃(j:Nat)(x:bG),d[j]? = some x/\x.Name=s/\JQ n d s=some (j:Int):=by obtain⟨j,x,a,b,_,c⟩|⟨a,_⟩:=tz f s g;exact⟨j,x,a,b,c⟩;have⟨x,i,e⟩:=h;exact absurd e (a x i)
def MP(d:X bG)(x:bG):Prop:=(∀s∈x.F5,m9 d s)/\x.F5.Nodup
def z5w(P:d.length<=12)(G:∀x∈d,x.F5.length<=256)(R:5000<=n):∃e,dx n d=some e/\(e=0->∀x∈d,MP d x):=by
 have:=jG (l:=d) af (F:=fun m z (_:Unit)=>OF d n m z) (fun i _=>∀x∈d.take i,MP d x) (Q:=fun e=>e=0->∀x∈d,MP d x)
  (fun m i x _ u N q H p J=>by
   have C:=zX u;have I:=G x C;simp only[OF,q,zC,c9,u,aN];have:=jG (l:=x.F5) af (F:=fun v z (_:Unit)=>Dp d n i (OF d n m) x v z) (fun k _=>(∀s∈x.F5.take k,m9 d s)/\(x.F5.take k).Nodup) (Q:=fun e=>e=0->∀x∈d,MP d x)
    (fun v k s _ g S r M o K=>by
     simp only[Dp,r,zC,c9,g,aN,M];rcases tz (d:=d) af s (show d.length<n by omega)with⟨j,y,g1,g2,O,B⟩|⟨g1,g2⟩;have E:¬ (j:Int)<0:=by omega
     have L:=QO (l:=x.F5.take k) (by simp;omega) s (n:=n) (by simp;omega);simp only[B,aN,E,yB,zD,sj (show k<=x.F5.length by omega),L];by_cases hm:s∈x.F5.take k;simp only[hm,yC,zC];exact⟨4,rfl,fun h=>by cases h⟩;simp[hm,yB,zD];refine K () ?_;rw[jB g];refine⟨fun t f=>?_,?_⟩;obtain f |f:=yD.1 f;exact o.1 t f;simp at f;subst f;exact⟨y,zX g1,g2⟩;rw[fF];exact⟨o.2,by simp,fun a D b w e=>by simp at w;subst w;subst e;exact hm D⟩;simp only[g2,aN];exact⟨5,rfl,fun h=>by cases h⟩)
    (fun v _ r o=>by
     simp only[Dp,r,zD,rk,H];rw[zW<|zF _]at o;refine J () fun y c=>?_;rw[jB u]at c;obtain c |c:=yD.1 c
     exact p y c;simp at c;subst c;exact o) n 0 () af af ⟨by simp,by simp⟩
   rw[zV]at this;exact this)
  (fun m _ q p=>by simp only[OF,q,zD,rn];rw[zW<|zF _]at p;exact⟨0,rfl,fun _=>p⟩) n 0 () af af aZ
 rw[zV]at this;exact this
def z8u{x:bG}(v:x.F5.length<=256)(q:l.length<=1000)(u:5000<=n):de n x l=some (decide (∀s∈x.F5,s∈l)):=by
 have:=jG (l:=x.F5) af (F:=fun m z (_:Unit)=>Di x l n m z) (fun i _=>∀s∈x.F5.take i,s∈l) (Q:=fun b=>b=decide (∀s∈x.F5,s∈l))
  (fun m i s _ f p e k c o=>by
   simp only[Di,e,zC,c9,f,aN,k,QO (l:=l) af s (n:=n) af];by_cases hm:s∈l;simp only[hm,yC,Zr,zD];refine o () fun t a=>?_;rw[jB f]at a;obtain a |a:=yD.1 a
   exact c t a;simp at a;subst a;exact hm;simp only[hm,yB,eG,zC];exact⟨false,rfl,(Zb fun h=>hm<|h s<|zX f).symm⟩)
  (fun m _ e c=>by simp only[Di,e,zD,nh];rw[zW<|zF _]at c;exact⟨true,rfl,(Zh c).symm⟩) n 0 () af af aZ
 rw[zV]at this;have⟨r,g,j⟩:=this;rw[<-j];exact g
inductive Ord(d:List bG):List cb->Prop
 |nil:Ord d []
 |snoc {l:List cb} {x:bG}:Ord d l->x∈d->x.Name ∉ l->(∀s∈x.F5,s∈l)->Ord d (l++[x.Name])
def Ord.nodup(h:Ord d l):l.Nodup/\∀s∈l,m9 d s:=by induction h with|nil=>simp| @snoc l x m i j o g=>refine⟨?_,fun s c=>?_⟩;rw[fF];exact⟨g.1,by simp,fun a k b f e=>by simp at f;subst f;subst e;exact j k⟩;obtain c |c:=yD.1 c;exact g.2 s c;simp at c;subst c;exact⟨x,i,rfl⟩
def Vl:∀{a b:X cb},a.Nodup->(∀x∈a,x∈b)->a.length<=b.length
 |[],b,_,_=>by simp
 |x::a,b,i,c=>by
  have⟨g,h⟩:=nodup_cons.1 i;have j:=Vl (b:=b.erase x) h fun y f=>by have:y≠x:=fun e=>g<|e ▸ f;exact(mem_erase_of_ne this).2 (c y<|lu x f)
  have k:=qcO<|c x aZ;have m:=ZD<|c x aZ;simp[zO];omega
def Ord.len(h:Ord d l):l.length<=d.length:=by
 have:=Vl (b:=d.map bG.Name) h.nodup.1 fun s a=>by obtain⟨x,c,rfl⟩:=h.nodup.2 s a;exact X1 c
 rwa [yA]at this
def z4f(I:d.length<=12)(G:∀x∈d,x.F5.length<=256)(E:5000<=n):∃l,dy n d=some l/\Ord d l:=by
 have key:∀(m:Nat)(b:FK)(l:X cb),d.length-l.length+2<=m+(cond b 0 1)->Ord d l->∃r,JU d n m b l=some r/\Ord d r:=by
  intro m;induction m with
  |zero=>intro b l hm;cases b<;>simp at hm<;>omega|succ m D=>
   intro b l hm j;have J:=j.len;unfold JU;obtain _|_:=b;simp only[zD,ru];exact⟨l,rfl,j⟩;simp[zC]at hm ⊢;have:=jG (l:=d) af (F:=fun u z (s:FK×cb)=>OG d n l (JU d n m) u s.1 s.2 z) (fun i s=>s.1=true->∃x∈d,x.Name=s.2/\x.Name ∉ l/\∀t∈x.F5,t∈l) (Q:=fun r=>Ord d r)
    (fun u i x s k H o B f g=>by
     have w:=zX k;simp only[OG,o,zC,c9,k,aN,B,QO (l:=l) af x.Name (n:=n) af,z8u (G x w) (show l.length<=1000 by omega) E];by_cases a:x.Name∈l;simp only[a,yC,zC,aN];exact g (s.1,s.2) f;by_cases c:∀t∈x.F5,t∈l;have p:decide (∀t∈x.F5,t∈l)=true:=Zh c;simp[a,p,yB,zD,Zr,aN,Yk,B];have C:∃y∈d,y.Name=x.Name/\y.Name ∉ l/\∀t∈y.F5,t∈l:=⟨x,w,rfl,a,c⟩;cases q:s.1 with
     |false=>simp[eG,zC,aN];exact g (true,x.Name) fun _=>C
     |true=>
      simp[Zr,zD,aN];cases lP x.Name s.2 with
      |true=>simp[zC];exact g (true,x.Name) fun _=>C
      |false=>simp[zD];exact g (true,s.2) fun _=>f q
     have p:decide (∀t∈x.F5,t∈l)=false:=Zb c;simp[a,p,yB,zD,eG,aN,zC];exact g (s.1,s.2) f)
    (fun u s o f=>by
     simp[OG,o,zD,rq,Yl];rcases q:s.1 with _|_;simp[zD];exact D false l (by simp;omega) j;have⟨x,k,e,a,c⟩:=f q;have v:Ord d (l++[s.2]):=by rw[<-e];exact .snoc j k a c
     have:=v.len;simp[zU,zO,zS]at this;simp[zC];rw[gW af];exact D true (l++[s.2]) (by simp;omega) v) n 0 (false,[]) af af (fun h=>by cases h)
   rw[zV]at this;exact this
 exact key n true [] (by simp;omega) .nil
structure BC(d:X bG):Prop where
 len:d.length<=12
 sF:∀x∈d,x.F5.length<=256/\x.E6.length<=256
 p6:Um d
 sup:∀x∈d,MP d x
 ord:∃l,Ord d l/\l.length=d.length
 one:(d.filter fun x=>decide (x.F5=[])).length=1
def z1p(f:d.length<=12)(j:5000<=n):∃e,Wr n d=some e/\(e=0->BC d):=by
 have⟨c,D,E⟩:=z90 f j;simp[Wr,D,aN];by_cases t:c=0;subst t;have a3:=E rfl;have⟨q,G,H⟩:=z1v f j;simp[ki,zD,G,aN];by_cases u:q=0;subst u;have⟨r,I,J⟩:=z5w f (fun x b=>(a3 x b).1) j;simp[ki,zD,I,aN];by_cases v:r=0;subst v;simp only[ki,zD];have:=jG (l:=d) af (F:=fun m z (s:Int)=>RE d n m s z) (fun i s=>s=(((d.take i).filter fun x=>decide (x.F5=[])).length:Int)) (Q:=fun e=>e=0->BC d)
  (fun m i x s b L o K g B=>by
   have C:=Hc (fun x:bG=>decide (x.F5=[]))<|d.take i;rw[Yz]at C;simp only[RE,o,zC,c9,b,aN,Ya,K];by_cases k:x.F5=[];have p:((x.F5.length:Int)==0)=true:=by simp[k]
   have c:i64.wrap (s+1)=s+1:=wr af af;simp only[p,zC,c];refine B (s+1) ?_;rw[jB b,nw,zU,g];simp[k];have p:((x.F5.length:Int)==0)=false:=by simp[length_eq_zero_iff,k]
   simp only[p,zD];refine B s ?_;rw[jB b,nw,zU,g];simp[k])
  (fun m s o g=>by
   rw[zW<|zF _]at g;simp only[RE,o,zD,nr];by_cases w:s=1;obtain⟨l,g1,g2⟩:=z4f f (fun x b=>(a3 x b).1) j;have M:=g2.len;simp only[w,ki,zD,g1,aN];by_cases y:(l.length:Int)<(d.length:Int);simp only[y,yC,zC];exact⟨6,rfl,fun h=>by cases h⟩;simp only[y,yB,zD];exact⟨0,rfl,fun _=>⟨f,a3,H rfl,J rfl,⟨l,g2,by omega⟩,by omega⟩⟩;have a:(s != 1)=true:=by simpa using w
   simp only[a,zC];exact⟨1,rfl,fun h=>by cases h⟩) n 0 0 af af aZ
 rw[zV]at this;exact this;have a:(r != 0)=true:=by simpa using v
 simp only[a,zC];exact⟨r,rfl,fun h=>absurd h v⟩;have a:(q != 0)=true:=by simpa using u
 simp only[a,zC];exact⟨q,rfl,fun h=>absurd h u⟩;have a:(c != 0)=true:=by simpa using t
 simp only[a,zC];exact⟨c,rfl,fun h=>absurd h t⟩
variable{a:Nat}
def wu(h:a<18446744073709551616):u64.wrap (a:Int)=(a:Int):=by simp only[wrap,IntKind.bits,signed];simp;omega
variable{b:Nat}
def TE(c:a<18446744073709551616)(e:b<18446744073709551616):N6 .u64 (a:Int) (b:Int)=((a&&&b:Nat):Int):=by
 have h:(BitVec.ofInt 64 (a:Int)&&&BitVec.ofInt 64 (b:Int)).toNat=a&&&b:=by simp[LD,BitVec.toNat_and,MM];rw[vu c,vu e]
 show u64.wrap (((BitVec.ofInt 64 (a:Int)&&&BitVec.ofInt 64 (b:Int)).toNat:Nat):Int)=_;rw[h];exact wu (Hr qcw c)
def orN(c:a<18446744073709551616)(e:b<18446744073709551616):Zk .u64 (a:Int) (b:Int)=((a|||b:Nat):Int):=by
 have h:(BitVec.ofInt 64 (a:Int)|||BitVec.ofInt 64 (b:Int)).toNat=a|||b:=by simp[LD,BitVec.toNat_or,MM];rw[vu c,vu e]
 show u64.wrap (((BitVec.ofInt 64 (a:Int)|||BitVec.ofInt 64 (b:Int)).toNat:Nat):Int)=_;rw[h];exact wu (or_lt_two_pow (n:=64) c e)
def Zv(k:a<18446744073709551616)(o:b<18446744073709551616):∃c:Nat,Cf .u64 (a:Int) (b:Int)=(c:Int)/\(c=0↔a&&&b=a):=by
 refine⟨(BitVec.ofInt 64 (a:Int) &&& ~~~ BitVec.ofInt 64 (b:Int)).toNat,?_,?_⟩;exact wu<|BitVec.isLt _;have m:(BitVec.ofInt 64 (a:Int)&&&BitVec.ofInt 64 (b:Int)).toNat=a&&&b:=by simp[LD,BitVec.toNat_and,MM];rw[vu k,vu o]
 have j:(BitVec.ofInt 64 (a:Int)).toNat=a:=by simp only[LD,MM];exact vu k
 generalize BitVec.ofInt 64 (a:Int)=x at*;generalize BitVec.ofInt 64 (b:Int)=y at*;rw[<-m];constructor;intro h;have e:x &&& ~~~ y=0#64:=qc4 (by simpa using h);have:x&&&y=x:=by ext i f;have:=congrArg (fun z=>z.getLsbD i) e;simp[f]at this ⊢;intro g;exact this g
 rw[this,j];intro h;have e:x&&&y=x:=qc4 (by rw[h,j]);have:x &&& ~~~ y=0#64:=by ext i f;have:=congrArg (fun z=>z.getLsbD i) e;simp[f]at this ⊢;intro g;exact this g
 rw[this];rfl
def bt(w:Nat):X Int:=if w=0 then[]else[(w:Int)]
def TM:bt 0=[]:=rfl
variable{w:Nat}
def sZ(h:w≠0):bt w=[(w:Int)]:=hF h
def zbq:((bt w).length:Int)=0↔w=0:=by by_cases h:w=0;simp[h,bt];simp[h,bt]
def Z?{w:Nat}{k:Nat}(p:k<=1000):∀(j m:Nat),j<=k->j+2<=m->VR ((w:Int)::replicate k 0) m ((j+1:Nat):Int)=some (bt w)
 |0,0,_,h=>by omega
 |0,1,_,h=>by omega
 |0,m+2,_,_=>by
  have e:i64.wrap (((0+1:Nat):Int)-1)=0:=wr (z:=0) af af;have f:aB ((w:Int)::replicate k 0) 0=some (w:Int):=by simp[aB]
  have g:decide (((0+1:Nat):Int)>0)=true:=by simp
  have i:=sj (l:=(w:Int)::replicate k 0) (b:=0) aZ;have o:=sj (l:=(w:Int)::replicate k 0) (b:=1) aZ;rw[zV,lz]at i;rw[VR,g,e,zC,f,aN,aN];by_cases c:w=0;have:((w:Int)==0)=true:=by simp[c]
  rw[this,zC,VR];simp[Int.lt_irrefl,yB,zD,aN,Ym,i,show((0:Int)>0)=False by simp];rw[gW aZ,c,TM];have:((w:Int)==0)=false:=by simp[c]
  rw[this,zD,Ym,show((0+1:Nat):Int)=((1:Nat):Int) by simp,o,aN,gW aZ,sZ c];rfl
 |j+1,m,r,hm=>by
  obtain⟨m,rfl⟩:∃q,m=q+1:=⟨m-1,by omega⟩;have e:i64.wrap (((j+1+1:Nat):Int)-1)=((j+1:Nat):Int):=PK af af;have f:aB ((w:Int)::replicate k 0) ((j+1:Nat):Int)=some 0:=by rw[c9,zH,KW,lr af]
  have g:decide (((j+1+1:Nat):Int)>0)=true:=by simp;omega
  rw[VR,g,e,zC,f,aN,aN];exact Z? p j m af af
variable{n:Nat}
def gw(c:5<=n):O8 n [(w:Int)]=some (bt w):=Z? (k:=0) af 0 n af af
def gz(c:5<=n):O8 n []=some []:=by obtain⟨k,rfl⟩:=ox c;rfl
def zcl(c:5<=n):O8 n (bt w)=some (bt w):=by by_cases h:w=0;subst h;exact gz c;rw[sZ h,gw c,sZ h]
def qwn(b n:Nat):VD n (bt b) 0=some (b:Int):=by by_cases h:b=0;subst h;rfl;rw[sZ h];rfl
def z9q(j:a<4096)(m:b<4096)(c:5<=n):JN n (bt a) (bt b)=some (bt<|a&&&b):=by obtain⟨k,rfl⟩:=ox c;by_cases h:a=0;subst h;rw[zero_and];have:=gz (n:=k+5) c;simp only[JN,TM,Oj,zS,QW,this,aN];rfl;have f:=TE (a:=a) (b:=b) af af;have g:=gw (w:=a&&&b) (n:=k+5) c;have e:JN (k+5) [(a:Int)] (bt b)=a8 (VD (k+5) (bt b) 0) fun i=>aE ((0+1)*8<=140737488355328/\0+1<=140737488355328) (QW (k+5) [N6 .u64 (a:Int) i]):=rfl;rw[sZ h,e,qwn,aN,gW af,QW,f,g];rfl
def z86(o:a<4096)(p:b<4096)(f:5<=n):∃c:Nat,Oa n (bt a) (bt b)=some (bt c)/\(c=0↔a&&&b=a):=by obtain⟨k,rfl⟩:=ox f;by_cases h:a=0;subst h;have:=gz (n:=k+5) f;refine⟨0,?_,by simp⟩;simp only[Oa,TM,Yd,zS,Pc,this,aN];rfl;have⟨c,g,j⟩:=Zv (a:=a) (b:=b) af af;have i:=gw (w:=c) (n:=k+5) f;have e:Oa (k+5) [(a:Int)] (bt b)=a8 (VD (k+5) (bt b) 0) fun m=>aE ((0+1)*8<=140737488355328/\0+1<=140737488355328) (Pc (k+5) [Cf .u64 (a:Int) m]):=rfl;refine⟨c,?_,j⟩;rw[sZ h,e,qwn,aN,gW af,Pc,g,i];rfl
def qoa(g:a<4096)(h:b<4096)(i:5<=n):Cu n (bt a) (bt b)=some (decide (a&&&b=a)):=by have⟨c,e,f⟩:=z86 g h i;rw[Cu,e,aN];congr 1;rw[vg,beq_iff_eq,zbq,f,zc]
def z7n(f:a<4096)(g:b<4096)(i:5<=n):Wu n (bt a) (bt b)=some (decide (a=b)):=by
 simp[Wu,qoa f g i,qoa g f i,aN];by_cases h:a&&&b=a;by_cases c:b&&&a=b;have:a=b:=by rw[<-h,IB,c]
 simp[h,c,this,aN];have:a≠b:=fun e=>c (by rw[<-e,Gc]);simp[h,c,this,aN];have:a≠b:=fun e=>h (by rw[<-e,Gc]);simp[h,this,aN]
def zad{i:Nat}(u:w<4096)(t:i<64):Nl n (bt w) (i:Int)=some (w.testBit i):=by
 have f:decide ((i:Int)<0)=false:=by simp
 have g:(i:Int).tdiv 64=0:=by rw[qcJ af];omega
 have j:i64.wrap 0=0:=wr af af;simp only[Nl,f,zD,aN,g,j];by_cases h:w=0;subst h;simp[TM];have k:decide ((0:Int)>=((bt w).length:Int))=false:=by rw[sZ h];simp
 have m:aB (bt w) 0=some (w:Int):=by rw[sZ h];rfl
 have o:(i:Int).tmod 64=(i:Int):=by rw[qcI af];omega
 have p:u64.wrap (i:Int)=(i:Int):=wu af;have q:min ((i:Int).toNat) u64.bits=i:=by rw[zZ];exact pg (by show i<=64;omega)
 have r:(w:Int).fdiv (2^i)=((w/2^i:Nat):Int):=by rw[show(2:Int)^i=((2^i:Nat):Int) by simp,Int.fdiv_eq_ediv_of_nonneg _<|qch _];rfl
 have e:w/2^i<18446744073709551616:=Hr (div_le_self _ _) af;have c:=TE (a:=w/2^i) (b:=1) e af;rw[show((1:Nat):Int)=1 from rfl]at c;simp only[k,zD,m,aN,o,p];rw[gW af,q,r,c];congr 1;rw[vg,beq_iff_eq,testBit_eq_decide_div_mod_eq,zc,and_one_is_mod];omega
def bl(w:Nat):X Int:=((List.range 64).filter fun i=>w.testBit i).map fun(i:Nat)=>(i:Int)
def zcc(B:w<4096)(y:100<=n):aq n (bt w)=some (bl w):=by
 by_cases h:w=0;subst h;obtain⟨k,rfl⟩:=ox y;have e:bl 0=[]:=by simp[bl]
 rw[e];rfl;have u:i64.wrap (64*((bt w).length:Int))=((List.range 64).length:Int):=by rw[sZ h,qcm];exact wr aZ aZ
 have:=jG (l:=List.range 64) aZ (F:=fun m z s=>R7 (bt w) n m z s) (fun i s=>s=(((List.range 64).take i).filter fun i=>w.testBit i).map fun(i:Nat)=>(i:Int)) (Q:=fun r=>r=bl w)
  (fun m i x s f g j C c t=>by
   have o:x=i:=by rw[getElem?_range<|by simpa using g]at f;exact(Option.some.inj f).symm
   subst o;have D:s.length<=64:=by rw[c,yA];apply Zt (Hc _ _);rw[Yz,qcm];omega
   rw[qcm]at g;simp only[R7,u,j,zC,zad B g,aN,Xm,C];cases q:w.testBit x with
   |true=>simp only[zC];rw[gW af];apply t _;rw[jB f,nw,y_,c];simp[q]|false=>simp only[zD];apply t _;rw[jB f,nw,y_,c];simp[q])
  (fun m s j c=>by simp only[R7,u,j,zD,fy];rw[zW<|zF _]at c;exact⟨s,rfl,c⟩) n 0 [] (by simp;omega) af aZ
 have⟨r,p,v⟩:=this;rw[<-v];rw[zV]at p;exact p
def qwy(e:w<4096)(c:100<=n):Ob n (bt w)=some ((bl w).length:Int):=by rw[Ob,zcc e c];rfl
def qrr(g:5<=n):QT n (bt a) (bt b)=some (decide (a=b)):=by
 obtain⟨k,rfl⟩:=ox g;by_cases f:a=0;subst f;by_cases c:b=0;subst c;rfl;rw[sZ c];simp[TM,QT,WV c];by_cases c:b=0;subst c;rw[sZ f];simp[TM,QT,f];have e:QT (k+5) [(a:Int)] [(b:Int)]=cond ((a:Int) != (b:Int)) (some false) (some true):=rfl;rw[sZ f,sZ c,e];by_cases h:a=b;subst h;simp;have:((a:Int) != (b:Int))=true:=by simp;omega
 simp[this,h]
def qz{ws:X Nat}(t:ws.length<=1000)(u:5000<=n):tq n (ws.map bt) (bt b)=some (decide (b∈ws)):=by
 have:=jG (l:=ws) af (F:=fun m z (_:Unit)=>Cr (ws.map bt) (bt b) n m z) (fun i _=>b ∉ ws.take i) (Q:=fun r=>r=decide (b∈ws))
  (fun m i x _ g q f o c p=>by
   have j:(ws.map bt)[i]? = some (bt x):=by rw[me,g];rfl
   simp only[Cr,yA,f,zC,c9,j,aN,qrr (a:=x) (b:=b) (n:=n) af,o];by_cases e:x=b;simp only[e,yC,zC];exact⟨true,rfl,(Zh<|e ▸ zX g).symm⟩;simp only[e,yB,zD];apply p ();rw[jB g];simp[c,WV e])
  (fun m _ f c=>by simp only[Cr,yA,f,zD,dc];rw[zW<|zF _]at c;exact⟨false,rfl,(Zb c).symm⟩) n 0 () af af aZ
 have⟨r,h,k⟩:=this;rw[<-k];rw[zV]at h;exact h
def JZ(l:X Nat):Nat:=l.foldl (fun w i=>w|||2^i) 0
def F?:∀(l:X Nat)(w:Nat),(∀i∈l,i<12)->w<4096->l.foldl (fun w i=>w|||2^i) w<4096
 |[],w,_,h=>h|i::l,w,c,h=>F? l _ (fun j e=>c j<|by simp[e]) (or_lt_two_pow (n:=12) h<|Nat.pow_lt_pow_right af<|c i aZ)
def zam(j:Nat):∀(l:X Nat)(w:Nat),(l.foldl (fun w i=>w|||2^i) w).testBit j=(w.testBit j||decide (j∈l))
 |[],w=>by simp
 |i::l,w=>by rw[py,zam j l,testBit_or,testBit_two_pow];by_cases e:i=j;subst e;simp;have:¬ j=i:=fun h=>e h.symm;simp[e,this,Bool.or_assoc]
def Zp{l:X Nat}(M:l.length<=12)(p:∀i∈l,i<12)(N:5000<=n):Uy n (l.map fun(i:Nat)=>(i:Int))=some (bt<|JZ l,0):=by
 have e:replicate (64:Int).toNat (0:Int)=((0:Nat):Int)::replicate 63 0:=rfl;have:=jG (l:=l) af (F:=fun m z s=>Cs (l.map fun(i:Nat)=>(i:Int)) n m z s) (fun i s=>s=(((l.take i).foldl (fun w i=>w|||2^i) 0:Nat):Int)::replicate 63 0) (Q:=fun r=>r=(bt<|JZ l,0))
  (fun m i x s o L h J c K=>by
   have f:=p x<|zX o;have q:(l.map fun(i:Nat)=>(i:Int))[i]? = some (x:Int):=by rw[me,o];rfl
   have t:decide ((x:Int)<0)=false:=by simp
   have u:decide ((x:Int)>4095)=false:=by simp;omega
   have v:i64.wrap ((x:Int).tdiv 64)=0:=by rw[qcJ af,show(x:Int)/64=0 by omega];exact wr af af
   have y:(x:Int).tmod 64=(x:Int):=by rw[qcI af];omega
   have B:u64.wrap (x:Int)=(x:Int):=wu af;have C:min ((x:Int).toNat) u64.bits=x:=by rw[zZ];exact pg (by show x<=64;omega)
   have P:(l.take i).foldl (fun w i=>w|||2^i) 0<4096:=F? _ 0 (fun j I=>p j<|Ey I) af;have O:2^x<4096:=Nat.pow_lt_pow_right (n:=12) af f;have D:u64.wrap (1*(2^x:Int))=((2^x:Nat):Int):=by rw[Int.one_mul,show(2:Int)^x=((2^x:Nat):Int) by simp];exact wu af
   have E:gU s 0 ((64:Int).toNat) 0=some (((l.take i).foldl (fun w i=>w|||2^i) 0:Nat):Int):=by rw[c];rfl
   have G:=orN (a:=(l.take i).foldl (fun w i=>w|||2^i) 0) (b:=2^x) af af;simp only[Cs,yA,h,zC,c9,q,aN,t,u,zD,v,y,B,C,D,E,G,J];rw[gW af];apply K _;rw[jB o,foldl_append,c];rfl)
  (fun m s h c=>by
   simp only[Cs,yA,h,zD,dh];rw[zW<|zF _]at c;have g:O8 n s=some (bt<|JZ l):=by rw[c];exact Z? (k:=63) af 63 n af af
   rw[gW (by rw[c];rfl),g];exact⟨_,rfl,rfl⟩) n 0 _ af af rfl
 have⟨r,g,H⟩:=this;rw[zV]at g;rw[Uy,gW bF,e,<-H];exact g
inductive pN(d:List bG)(s:cb):cb->Prop
 |refl:pN d s s
 |step {t u:cb} {x:bG}:pN d s t->x∈d->x.Name=t->u∈x.F5->pN d s u
variable{d:X bG}{s:cb}
def pN.trans{t u:cb}(h:pN d s t)(h':pN d t u):pN d s u:=by induction h' with|refl=>exact h|step _ c e f g=>exact .step g c e f
structure WL(d:X bG)(P:cb->Prop)(l:X cb):Prop where
 gR:l.Nodup
 mem:∀s∈l,m9 d s/\P s
variable{l:X cb}
def WL.len{P:cb->Prop}(h:WL d P l):l.length<=d.length:=by
 have:=Vl (b:=d.map bG.Name) h.gR fun s c=>by obtain⟨x,e,rfl⟩:=(h.mem s c).1;exact X1 e
 rwa [yA]at this
def WL.snoc{d:X bG}{P:cb->Prop}{l:X cb}(h:WL d P l){s:cb}(i:s ∉ l)(j:m9 d s/\P s):WL d P (l++[s]):=by refine⟨?_,fun t c=>?_⟩;rw[fF];exact⟨h.gR,by simp,fun a g b f e=>by simp at f;subst f;subst e;exact i g⟩;obtain c |c:=yD.1 c;exact h.mem t c;simp at c;subst c;exact j
variable{n:Nat}
def z4r(g:l.length<=1000)(u:5000<=n):(∃out,VN n l n [] 0=some out/\yX [] l out)/\∃out,VO n l n [] 0=some out/\yX [] l out:=by
 constructor;have:=jG (l:=l) af (F:=fun m z s=>VN n l m s z) (fun i s=>yX [] (l.take i) s) (Q:=fun out=>yX [] l out)
  (fun m i x s f t e q c r=>by have g:=c.len;simp at g;have⟨o,h,j,k,p⟩:=Mp (l:=s) af c.o6 x (show s.length<n by omega);simp only[VN,e,zC,c9,f,aN,h,q];exact r o (by rw[jB f];exact c.next j k p))
  (fun m s e c=>by simp only[VN,e,zD,ny];rw[zW<|zF _]at c;exact⟨s,rfl,c⟩) n 0 [] af af (yX.nil Pairwise.nil)
 rw[zV]at this;exact this;have:=jG (l:=l) af (F:=fun m z s=>VO n l m s z) (fun i s=>yX [] (l.take i) s) (Q:=fun out=>yX [] l out)
  (fun m i x s f t e q c r=>by have g:=c.len;simp at g;have⟨o,h,j,k,p⟩:=Mp (l:=s) af c.o6 x (show s.length<n by omega);simp only[VO,e,zC,c9,f,aN,h,q];exact r o (by rw[jB f];exact c.next j k p))
  (fun m s e c=>by simp only[VO,e,zD,oh];rw[zW<|zF _]at c;exact⟨s,rfl,c⟩) n 0 [] af af (yX.nil Pairwise.nil)
 rw[zV]at this;exact this
def z71(h:BC d)(R:m9 d s)(hn:5000<=n):∃l,Ws n d s=some l/\fM l/\l.length<=12/\∀x,x∈l↔m9 d x/\pN d x s:=by
 have hd:=h.len;have key:∀(m i:Nat)(l:X cb),d.length+1-i<=m->i<=l.length->WL d (fun x=>pN d x s) l->s∈l->(∀y∈l.take i,∀x∈d,y∈x.F5->x.Name∈l)->
   ∃r,OC d n m i l=some r/\fM r/\r.length<=12/\∀x,x∈r↔m9 d x/\pN d x s:=by
  intro m;induction m with
  |zero=>intro i l hm hi v;have:=v.len;omega|succ m L=>
   intro i l hm hi v O K;have tQ:=v.len;unfold OC;by_cases B:i<l.length;have⟨y,S,U⟩:=fJ B;simp only[iU B,zC];have:=jG (l:=d) af (F:=fun N z (e:X cb)=>RG d n i (OC d n m) N z e) (fun k e=>WL d (fun x=>pN d x s) e/\(∃t,e=l++t)/\∀x∈d.take k,y∈x.F5->x.Name∈e) (Q:=fun r=>fM r/\r.length<=12/\∀x,x∈r↔m9 d x/\pN d x s)
    (fun N k x e f tP G nZ I M=>by
     obtain⟨p,⟨t,g⟩,o⟩:=I;have H:=zX f;have P:=p.len;have nX:e[i]? = some y:=by rw[g,mc B];exact S
     have Qo:=(h.sF x H).1;simp only[RG,G,zC,c9,f,aN,nX,QO (l:=x.F5) af y (n:=n) af,QO (l:=e) af x.Name (n:=n) af,Hq,nZ];by_cases C:y∈x.F5;by_cases u:x.Name∈e;simp only[C,u,yC,zC,aN,Zr,zD];refine M e ⟨p,⟨t,g⟩,fun z c q=>?_⟩;rw[jB f]at c;obtain c |c:=yD.1 c;exact o z c q;simp at c;subst c;exact u;simp only[C,u,yC,yB,zC,aN,eG];rw[gW af];have T:=(v.mem y U).2;refine M (e++[x.Name]) ⟨p.snoc u ⟨⟨x,H,rfl⟩,(pN.step .refl H rfl C).trans T⟩,⟨t++[x.Name],by rw[g,zT]⟩,fun z c q=>?_⟩;rw[jB f]at c;obtain c |c:=yD.1 c;exact mw _<|o z c q;simp at c;subst c;simp;simp only[C,yB,zD,aN];refine M e ⟨p,⟨t,g⟩,fun z c q=>?_⟩;rw[jB f]at c;obtain c |c:=yD.1 c;exact o z c q;simp at c;subst c;exact absurd q C)
    (fun N e G I=>by
     obtain⟨p,⟨t,g⟩,o⟩:=I;rw[zW<|zF _]at o;simp only[RG,G,zD,nv,kE B<|show l.length<=9223372036854775807 by omega];refine L (i+1) e af (by rw[g];simp;omega) p (by rw[g];exact mw _ O) fun z c x f D=>?_;rw[g,Ar af,jB S]at c;obtain c |c:=yD.1 c
     rw[g];exact mw _<|K z c x f D;simp at c;subst c;exact o x f D) n 0 l af af ⟨v,⟨[],by simp⟩,by simp⟩
   rw[zV]at this;exact this;have iX:i=l.length:=by omega
   subst iX;rw[zW<|zF _]at K;simp[j9 B,zD,nz];have⟨out,g1,g2⟩:=(z4r (l:=l) af hn).1;have V:=g2.len;simp at V;refine⟨out,g1,g2.o6,by omega,fun x=>?_⟩;rw[g2.mem];simp[oC,HZ];constructor;exact fun f=>v.mem x f;rintro⟨_,J⟩;have:∀{t:cb},pN d x t->t∈l->x∈l:=by
    intro t E;induction E with
    |refl=>exact id|step _ u Y Z L=>exact fun J=>L (Y ▸ K _ J _ u Z)
   exact this J O
 have⟨j,x,g1,g2,W⟩:=qq9 (d:=d) af R (n:=n) af;have hj:¬ (j:Int)<0:=by omega
 simp[Ws,W,aN,hj,yB,zD];have:=key n 0 [s] af af ⟨by simp,fun t E=>by simp at E;subst E;exact⟨R,.refl⟩⟩ aZ aZ;rw[zV]at this;exact this
def qsq(h:Um d){x y:bG}(g:x∈d)(i:y∈d)(e:x.Name=y.Name):x=y:=by
 have:=h.gR;clear h;induction d with
 |nil=>cases g|cons z d j=>rw[zQ,nodup_cons]at this;obtain f |f:=zI.1 g;obtain c |c:=zI.1 i;rw[f,c];exact absurd (mem_map.2 ⟨y,c,by rw[<-e,f]⟩) this.1;obtain c |c:=zI.1 i;exact absurd (mem_map.2 ⟨x,f,by rw[e,c]⟩) this.1;exact j f c this.2
def z6q(h:BC d)(S:m9 d s)(hn:5000<=n):∃l,Wt n d s=some l/\fM l/\l.length<=12/\∀x,x∈l↔m9 d x/\pN d s x:=by
 have hd:=h.len;have key:∀(m i:Nat)(l:X cb),d.length+1-i<=m->i<=l.length->WL d (fun x=>pN d s x) l->s∈l->(∀y∈l.take i,∀x∈d,x.Name=y->∀u∈x.F5,u∈l)->
   ∃r,OD d n m i l=some r/\fM r/\r.length<=12/\∀x,x∈r↔m9 d x/\pN d s x:=by
  intro m;induction m with
  |zero=>intro i l hm Z o;have:=o.len;omega|succ m J=>
   intro i l hm Z o N I;have tQ:=o.len;unfold OD;by_cases B:i<l.length;have⟨y,U,M⟩:=fJ B;obtain⟨j,x,g1,g2,G⟩:=qq9 (d:=d) af (o.mem y M).1 (n:=n) af;have C:=zX g1;have Qo:=(h.sF x C).1;simp only[iU B,zC,c9,U,aN,G,g1];have:=jG (l:=x.F5) af (F:=fun K z (e:X cb)=>RJ n i (OD d n m) x K z e) (fun k e=>WL d (fun x=>pN d s x) e/\(∃t,e=l++t)/\∀u∈x.F5.take k,u∈e) (Q:=fun r=>fM r/\r.length<=12/\∀x,x∈r↔m9 d x/\pN d s x)
    (fun K k u e f tP E D H V=>by obtain⟨v,⟨t,p⟩,q⟩:=H;have O:=zX f;have R:=v.len;simp only[RJ,E,zC,c9,f,aN,QO (l:=e) af u (n:=n) af,Yc,D];by_cases g:u∈e;simp only[g,yC,Zr,zD];refine V e ⟨v,⟨t,p⟩,fun z c=>?_⟩;rw[jB f]at c;obtain c |c:=yD.1 c;exact q z c;simp at c;subst c;exact g;simp only[g,yB,eG,zC];rw[gW af];refine V (e++[u]) ⟨v.snoc g ⟨(h.sup x C).1 u O,.step (o.mem y M).2 C g2 O⟩,⟨t++[u],by rw[p,zT]⟩,fun z c=>?_⟩;rw[jB f]at c;obtain c |c:=yD.1 c;exact mw _<|q z c;simp at c;subst c;simp)
    (fun K e E H=>by
     obtain⟨v,⟨t,p⟩,q⟩:=H;rw[zW<|zF _]at q;simp only[RJ,E,zD,oe,kE B<|show l.length<=9223372036854775807 by omega];refine J (i+1) e af (by rw[p];simp;omega) v (by rw[p];exact mw _ N) fun z c w D L u f=>?_;rw[p,Ar af,jB U]at c;obtain c |c:=yD.1 c
     rw[p];exact mw _<|I z c w D L u f;simp at c;subst c;have:=qsq h.p6 D C<|L.trans g2.symm;subst this;exact q u f) n 0 l af af ⟨o,⟨[],by simp⟩,by simp⟩
   rw[zV]at this;exact this;have iX:i=l.length:=by omega
   subst iX;rw[zW<|zF _]at I;simp[j9 B,zD,oi];have⟨out,g1,g2⟩:=(z4r (l:=l) af hn).2;have W:=g2.len;simp at W;refine⟨out,g1,g2.o6,by omega,fun x=>?_⟩;rw[g2.mem];simp[oC,HZ];constructor;exact fun hx=>o.mem x hx;rintro⟨_,f⟩;clear g1 g2;induction f with
   |refl=>exact N|step h1 g P Y J=>exact I _ (J ⟨_,g,P⟩) _ g P _ Y
 have⟨j,x,g1,g2,G⟩:=qq9 (d:=d) af S (n:=n) af;have hj:¬ (j:Int)<0:=by omega
 simp[Wt,G,aN,hj,yB,zD];have:=key n 0 [s] af af ⟨by simp,fun t T=>by simp at T;subst T;exact⟨S,.refl⟩⟩ aZ aZ;rw[zV]at this;exact this
def zdr(h:BC d){a b:cb}(O:m9 d a)(P:m9 d b)(N:pN d a b)(C:pN d b a):a=b:=by
 have⟨l,k,U⟩:=h.ord;have H:∀s,m9 d s->s∈l:=fun s ⟨x,Q,e⟩=>by
  apply qj;intro f;have D:=Vl (a:=s::l) (b:=d.map bG.Name) (nodup_cons.2 ⟨f,k.nodup.1⟩) fun t m=>by obtain rfl |m:=zI.1 m;rw[<-e];exact X1 Q;obtain⟨y,R,rfl⟩:=k.nodup.2 t m;exact X1 R
  simp at D;omega
 have L:∀{l:X cb},Ord d l->∀s∈l,∀t,pN d s t->∃u B,l=u++s::B/\(t=s\/t∈u):=by
  intro l k;induction k with
  |nil=>intro s g;cases g| @snoc l x g1 g2 V M K=>
   have S:∀s∈l,∀t,pN d s t->t∈l:=fun s g t m=>by have⟨u,B,j,c⟩:=K s g t m;obtain rfl |c:=c;exact g;rw[j];exact mw _ c
   intro s g t m;obtain g |g:=yD.1 g;have⟨u,B,j,c⟩:=K s g t m;exact⟨u,B++[x.Name],by rw[j];simp,c⟩;simp at g;subst g;refine⟨l,[],rfl,?_⟩;induction m with
   |refl=>exact .inl rfl|step _ C D J T=>obtain e |e:=T;have:=qsq h.p6 C g2<|D.trans e;subst this;exact .inr<|M _ J;exact .inr (S _ e _<|.step .refl C D J)
 have⟨u,B,j,c⟩:=L k a (H a O) b N;have⟨o,W,i,r⟩:=L k b (H b P) a C;obtain c |c:=c;exact c.symm;obtain r |r:=r;exact r
 ·-- b ahead of a,and a ahead of b
  have f:=k.nodup.1;have⟨p,q,I⟩:=append_of_mem c;rw[I]at j;have:o=p:=by
   have v:b ∉ p:=fun F=>by rw[j]at f;simp[zT,Zg]at f;rw[fF]at f;exact f.2.2 b F b aZ rfl
   have rfl:b ∉ o:=fun F=>by rw[i,fF]at f;exact f.2.2 b F b aZ rfl
   rw[j]at i;simp[zT,Zg]at i;clear j f I r k;induction p generalizing o with
   |nil=>obtain _|⟨z,o⟩:=o;rfl;simp at i;exact absurd (by rw[i.1];simp) rfl
   |cons y p G=>obtain _|⟨z,o⟩:=o;simp at i;exact absurd (by rw[<-i.1];simp) v;simp at i;rw[<-i.1,G o (fun E=>v<|lu _ E) (fun E=>rfl (lu _ E)) i.2]
  rw[this]at r;rw[j]at f;exact absurd rfl ((nodup_append.1 f).2.2 a (mw _ r) a aZ)
def quy(h:BC d)(I:l.length<=1000)(J:5000<=n):∃out,nj n d l=some out/\fM out/\out.length<=l.length/\∀x∈out,x∈l/\m9 d x:=by
 have H:=h.len;have:=jG (l:=l) af (F:=fun m z s=>RP d l n m s z) (fun i s=>fM s/\s.length<=i/\∀x∈s,x∈l/\m9 d x) (Q:=fun out=>fM out/\out.length<=l.length/\∀x∈out,x∈l/\m9 d x)
  (fun m i x s g D c C e q=>by
   obtain⟨k,K,p⟩:=e;simp only[RP,c,zC,c9,g,aN,Yr,C];rcases tz (d:=d) af x (show d.length<n by omega)with⟨j,y,g1,g2,E,r⟩|⟨g1,g2⟩;obtain⟨o,t,u,G,v⟩:=Mp (l:=s) af k x (show s.length<n by omega);have B:(j:Int)>=0:=by omega
   simp only[r,aN,B,yC,zC,t];refine q o ⟨v,by omega,fun z f=>?_⟩;rcases(u z).1 f with rfl |f;exact⟨zX g,y,zX g1,g2⟩;exact p z f;simp[g2,aN];exact q s ⟨k,by omega,p⟩)
  (fun m s c e=>by simp only[RP,c,zD,j_];exact⟨s,rfl,e⟩) n 0 [] af af ⟨Pairwise.nil,by simp,by simp⟩
 rw[zV]at this;exact this
def qpd(h:BC d)(B:l.length<=1000)(r:5000<=n):∃out,Ot n d l=some out/\out.length<=l.length/\∀x∈out,x∈l/\m9 d x:=by
 obtain⟨all,v,H,a3,a4⟩:=quy h B r;have:=jG (l:=all) af (F:=fun m z s=>JV d n all m z s) (fun i s=>s.length<=i/\∀x∈s,x∈l/\m9 d x) (Q:=fun out=>out.length<=l.length/\∀x∈out,x∈l/\m9 d x)
  (fun m i x s j I e C g u=>by
   have⟨J,t⟩:=g;have q:=a4 x<|zX j;obtain⟨up,G,L,M,N⟩:=z6q h q.2 r;simp only[JV,e,zC,c9,j,aN,G];have:=jG (l:=all) af (F:=fun p z b=>Dr n all i s (JV d n all m) up p b z) (fun _ _=>True) (Q:=fun out=>out.length<=l.length/\∀x∈out,x∈l/\m9 d x)
    (fun p k y b D K f E _ o=>by
     simp only[Dr,f,zC,E,c9,D,aN,QO (l:=up) af y (n:=n) af];cases b with
     |true=>rcases((k:Int)==(i:Int))with _|_;exact o _ trivial;exact o true trivial
     |false=>exact o false trivial)
    (fun p b f _=>by
     simp only[Dr,f,zD,e_,Yo,C,c9,j,aN];cases b with
     |true=>simp only[zC];rw[gW af];refine u (s++[x]) ⟨by simp;omega,fun z c=>?_⟩;obtain c |c:=yD.1 c;exact t z c;simp at c;subst c;exact q
     |false=>exact u s ⟨by omega,t⟩) n 0 true af af trivial
   rw[zV]at this;exact this)
  (fun m s e g=>by simp only[JV,e,zD,f_];exact⟨s,rfl,by omega,g.2⟩) n 0 [] af af ⟨by simp,by simp⟩
 rw[zV]at this;rw[Ot,v];exact this
variable{d:X bG}{n:Nat}
def zbv(h:BC d){all:X cb}(N:all.length<=12){s:cb}(H:m9 d s)(E:∀x∈all,m9 d x)(B:5000<=n):∃w,Vy n d all s=some (bt w)/\w<4096/\∀i,w.testBit i=true↔∃t,all[i]? = some t/\pN d t s:=by
 have⟨low,D,L,M,v⟩:=z71 h H B;have:=jG (l:=all) af (F:=fun m z (s:X Nat)=>R5 all n low m z<|s.map fun(i:Nat)=>(i:Int)) (fun i s=>s.length<=i/\∀j,j∈s↔j<i/\∃t,all[j]? = some t/\t∈low) (Q:=fun r=>∃w,r=bt w/\w<4096/\∀i,w.testBit i=true↔∃t,all[i]? = some t/\pN d t s)
  (fun m i x g u K p I q C=>by
   have⟨J,k⟩:=q;simp only[R5,p,zC,c9,u,aN,QO (l:=low) af x (n:=n) af,Xl,I,yA];by_cases hm:x∈low;simp only[hm,yC,zC];rw[gW af];have:=C (g++[i]) ⟨by simp;omega,fun j=>by rw[yD,k,qa];constructor;rintro(⟨f,c⟩|rfl);exact⟨by omega,c⟩;exact⟨by omega,x,u,hm⟩;rintro⟨f,c⟩;by_cases e:j=i;exact .inr e;exact .inl ⟨by omega,c⟩⟩;rw[y_]at this;exact this;simp[hm,yB,zD];exact C g ⟨by omega,fun j=>by
    rw[k];constructor;rintro⟨f,c⟩;exact⟨by omega,c⟩;rintro⟨f,t,c,o⟩;refine⟨?_,t,c,o⟩;have:j≠i:=fun e=>by subst e;rw[u]at c;cases c;exact hm o
    omega⟩)
  (fun m g p q=>by
   have⟨J,k⟩:=q;have y:∀i∈g,i<12:=fun i G=>by have:=((k i).1 G).1;omega
   simp only[R5,p,zD,fp,Zp (l:=g) af y B,aN];refine⟨_,rfl,JZ g,rfl,F? g 0 y af,fun i=>?_⟩;rw[JZ,zam];simp[Ib,Bool.false_or,zc];rw[k];constructor;rintro⟨_,t,f,c⟩;exact⟨t,f,((v t).1 c).2⟩;rintro⟨t,f,c⟩;exact⟨(zG.1 f).1,t,f,(v t).2 ⟨E t<|zX f,c⟩⟩) n 0 [] af af ⟨by simp,fun j=>aZ⟩
 obtain⟨r,f,w,rfl,c,o⟩:=this;rw[zV]at f;exact⟨w,by simp[Vy,D,aN];exact f,c,o⟩
structure FI(c0 ws:X Nat):Prop where
 pre:∃t,ws=c0++t
 gR:ws.Nodup
 ok:∀a∈ws,a<4096/\a≠0/\∃b∈c0,a&&&b=a
 len:ws.length<=257
def MV(f:X Nat)(i k:Nat):Prop:=∀c e a b,e<c->(c<i\/(c=i/\e<k))->f[c]? = some a->f[e]? = some b->a&&&b=0\/a&&&b∈f
variable{ws:X Nat}
def MV.app{t:X Nat}{i k:Nat}(h:MV ws i k)(q:i<ws.length):MV (ws++t) i k:=fun g p a b m o e f=>by
 have j:g<ws.length:=by omega
 rw[mc j]at e;rw[mc af]at f;obtain c |c:=h g p a b m o e f;exact .inl c;exact .inr (mw _ c)
def bi{c0:X Nat}{n:Nat}(B:5000<=n){i:Nat}{rc:Int->X (X Int)->V (X<|X Int)}{Q:X (X Int)->Prop}(H:i<=256)(u:∀f,FI c0 f->i<f.length->(f.length<=256->MV f (i+1) 0)->∃r,rc ((i+1:Nat):Int) (f.map bt)=some r/\Q r):
  ∀(m k:Nat)(ws:X Nat),i-k<m->k<=i->FI c0 ws->i<ws.length->(ws.length<=256->MV ws i k)->∃r,VP n i rc m k (ws.map bt)=some r/\Q r
 |0,k,ws,hm,_,_,_,_=>by omega
 |m+1,k,ws,hm,hk,j,p,o=>by
  have hl:=j.len;have P:i64.wrap ((i:Int)+1)=((i+1:Nat):Int):=PK af af;unfold VP;by_cases aG:k<i;have I:decide ((k:Int)<(i:Int))=true:=by simp;omega
  simp only[I,zC,yA];by_cases O:ws.length<=256;obtain⟨a,R,xB⟩:=fJ p;obtain⟨b,S,W⟩:=fJ (show k<ws.length by omega);have J:decide ((ws.length:Int)<=256)=true:=by simp;omega
  have ga:(ws.map bt)[i]? = some (bt a):=by rw[me,R];rfl
  have gb:(ws.map bt)[k]? = some (bt b):=by rw[me,S];rfl
  have GE:i64.wrap ((k:Int)+1)=((k+1:Nat):Int):=PK af af;have q:=j.ok a xB;have N:=j.ok b W;simp only[J,aN,zC,c9,ga,gb,z9q q.1 N.1 (show 5<=n by omega),qz (ws:=ws) af (b:=a&&&b) B,Yi,GE];have G:∀t,(a&&&b=0\/a&&&b∈ws++t)->MV (ws++t) i (k+1):=fun t M D E x y L Z v z=>by by_cases e:D=i/\E=k;obtain⟨rfl,rfl⟩:=e;rw[mc p,R]at v;rw[mc af,S]at z;cases v;cases z;exact M;exact(o O).app p D E x y L af v z
  by_cases C:a&&&b=0;have K:decide (((bt<|a&&&b).length:Int)>0)=false:=by rw[C];simp[TM]
  simp only[K,zD,aN];refine bi B H u m (k+1) ws af af j p fun _=>?_;have:=G [] (.inl C)
  rwa [Px]at this
  have K:decide (((bt<|a&&&b).length:Int)>0)=true:=by rw[sZ C];simp
  simp only[K,zC,aN];by_cases F:a&&&b∈ws;simp only[F,yC,Zr,zD];refine bi B H u m (k+1) ws af af j p fun _=>?_;have:=G [] (.inr<|by simpa using F)
  rwa [Px]at this
  simp only[F,yB,eG,zC];rw[gW af];have U:FI c0 (ws++[a&&&b]):=by obtain⟨t,M⟩:=j.pre;refine⟨⟨t++[a&&&b],by rw[M,zT]⟩,?_,fun c o=>?_,by simp;omega⟩;rw[fF];exact⟨j.gR,by simp,fun x hx y T e=>by simp at T;subst T;subst e;exact F hx⟩;obtain o |o:=yD.1 o;exact j.ok c o;simp at o;subst o;obtain⟨g,hg,Y⟩:=q.2.2;refine⟨Hr qcw q.1,C,g,hg,?_⟩;rw[Nat.and_assoc,IB b g,<-Nat.and_assoc,Y]
  have:=bi B H u m (k+1) (ws++[a&&&b]) af af U (by simp;omega) fun _=>G [a&&&b]<|.inr aZ;rw[y_]at this;exact this;have J:decide ((ws.length:Int)<=256)=false:=by simp;omega
  simp only[J,aN,zD,Yg,P];exact u ws j p fun h=>absurd h O;have I:decide ((k:Int)<(i:Int))=false:=by simp;omega
  simp only[I,zD,aN,Yg,P];refine u ws j p fun h D E a b L Z v z=>o h D E a b L af v z
def za5{c0:X Nat}{n:Nat}(k:5000<=n):∀(m i:Nat)(ws:X Nat),258-i<=m->i<=257->FI c0 ws->i<=ws.length->(ws.length<=256->MV ws i 0)->
  ∃r,OE n m i (ws.map bt)=some r/\∃c,r=c.map bt/\FI c0 c/\(c.length<=256->MV c c.length 0)
 |0,i,ws,hm,_,_,_,_=>by omega
 |m+1,i,ws,hm,p,f,t,j=>by
  have q:=f.len;unfold OE;simp only[yA];by_cases e:i<ws.length;by_cases o:ws.length<=256;have g:decide ((ws.length:Int)<=256)=true:=by simp;omega
  simp only[iU e,zC,g,aN];have:=bi (c0:=c0) k (i:=i) (rc:=OE n m) (Q:=fun r=>∃c,r=c.map bt/\FI c0 c/\(c.length<=256->MV c c.length 0)) af (fun c f1 f2 f3=>za5 k m (i+1) c af af f1 af f3) n 0 ws af af f e j;rw[zV]at this;exact this;have g:decide ((ws.length:Int)<=256)=false:=by simp;omega
  simp only[iU e,zC,g,aN,zD,Yh];exact⟨_,rfl,ws,rfl,f,fun h=>absurd h o⟩;simp only[j9 e,zD,aN,Yh];have:i=ws.length:=by omega
  exact⟨_,rfl,ws,rfl,f,this ▸ j⟩
def TG(ws:X Nat):Prop:=∀a∈ws,∀b∈ws,a&&&b≠0->a&&&b∈ws
def MV.all(h:MV ws ws.length 0):TG ws:=fun a j b o c=>by
 obtain⟨i,f,rfl⟩:=mem_iff_getElem.1 j;obtain⟨k,g,rfl⟩:=mem_iff_getElem.1 o;by_cases e:i=k;subst e;rw[Gc];exact j;by_cases m:k<i;exact(h i k _ _ m (.inl f) (lq f)<|lq g).resolve_left c;rw[IB]at c ⊢;exact(h k i _ _ af (.inl g) (lq g)<|lq f).resolve_left c
def z24{c0:X Nat}(m:c0.length<=12)(i:c0.Nodup)(g:∀a∈c0,a<4096/\a≠0)(k:5000<=n):∃ws,Wz n (c0.map bt)=some (ws.map bt)/\FI c0 ws/\(ws.length<=256->TG ws):=by obtain⟨r,c,ws,rfl,f,j⟩:=za5 (c0:=c0) k n 0 c0 af af ⟨⟨[],by simp⟩,i,fun a e=>⟨(g a e).1,(g a e).2,a,e,Gc a⟩,by omega⟩ af (fun _ o p a b c f=>af);rw[zV]at c;refine⟨ws,?_,f,fun h=>(j h).all⟩;rw[Wz,gW (by rw[yA];omega)];exact c
def Ez{l:X cb}(q:l.length<=12)(j:∀s∈l,s.length<=32)(r:5000<=n):∃s,O9 l n [] 0=some s:=by
 have:=jG (l:=l) af (F:=fun m z s=>O9 l m s z) (fun i s=>s.length<=33*i) (Q:=fun _=>True)
  (fun m i x s e p c k h f=>by
   have o:=j x<|zX e;simp only[O9,c,zC,Xk,c9,e,aN,k];cases decide ((i:Int)>0)with
   |true=>simp only[zC];rw[gW (by show s.length+1<=_;omega),gW (by rw[zU];show s.length+1+x.length<=_;omega)];exact f _ (by rw[zU,zU];show s.length+1+x.length<=_;omega)|false=>simp only[zD];rw[gW af];exact f _ (by rw[zU];omega))
  (fun m s c h=>by simp only[O9,c,zD,fk];exact⟨s,rfl,trivial⟩) n 0 [] af af aZ
 have⟨s,g,_⟩:=this;exact⟨s,g⟩
def qxz(h:BC d){all:X cb}(S:all.length<=12){c0:X Nat}(O:c0.length=all.length)(D:∀a∈c0,a<4096){w:Nat}(y:w<4096)(v:5000<=n):
  ∃s,Vw n d all (c0.map bt) (bt w)=some s/\∀(i:Nat)(t:cb),c0.Nodup->c0[i]? = some w->all[i]? = some t->s=t:=by
 have:=jG (l:=all) af (F:=fun m z s=>R4 d all (c0.map bt) (bt w) n m z s) (fun i (s:X cb)=>s.length<=i/\∀j,j<i->c0[j]? ≠some w) (Q:=fun s=>∀(i:Nat)(t:cb),c0.Nodup->c0[i]? = some w->all[i]? = some t->s=t)
  (fun m i x s g P o K c B=>by
   have⟨a,p,N⟩:=fJ (l:=c0) (show i<c0.length by omega);have ga:(c0.map bt)[i]? = some (bt a):=by rw[me,p];rfl
   simp only[R4,o,zC,c9,ga,g,aN,z7n (D a N) y (show 5<=n by omega),zad (w:=w) (n:=n) y (show i<64 by omega),Xj,K];by_cases e:a=w;subst e;simp only[yC,zC];refine⟨x,rfl,fun k t M G f=>?_⟩;have⟨T,L⟩:=zG.1 p;have⟨q1,q2⟩:=zG.1 G;have:i=k:=(Gw M).1 (L.trans q2.symm);subst this;rw[g]at f;exact Option.some.inj f;have q:∀j,j<i+1->c0[j]? ≠some w:=fun j E=>by by_cases C:j=i;subst C;rw[p];exact fun h=>e<|Option.some.inj h;exact c.2 j af
   simp[e,yB,zD];cases w.testBit i with
   |true=>simp[zC];rw[gW (by have:=c.1;omega)];exact B (s++[x]) ⟨by have:=c.1;simp;omega,q⟩|false=>exact B s ⟨by have:=c.1;omega,q⟩)
  (fun m s o c=>by have⟨out,I,R,J⟩:=qpd h (l:=s) (by have:=c.1;omega) v;have⟨r,H⟩:=Ez (l:=out) (by have:=c.1;omega) (fun t f=>by obtain⟨x,g,e⟩:=(J t f).2;have:=(h.p6.len x g).2;rw[e]at this;exact this) v;simp[R4,o,zD,fm,I,aN];refine⟨r,H,fun i t _ u _=>absurd u<|c.2 i ?_⟩;have:=(zG.1 u).1;omega) n 0 [] af af ⟨by simp,fun j E=>af⟩
 rw[zV]at this;exact this
def cw:X Int->Nat
 |[z]=>z.toNat|_=>0
def JH(w:Nat):cw (bt w)=w:=by by_cases h:w=0;subst h;rfl;rw[sZ h];simp[cw]
def eB(x:dW):Nat:=(bl<|cw x.Code).length
def z1c{x y:dW}{a b:Nat}(f:x.Code=bt a)(g:y.Code=bt b)(k:a<4096)(m:b<4096)(o:5000<=n):∃r,Xa n x y=some r/\(r=true->eB y<=eB x)/\(r=false->eB x<=eB y):=by
 have i:eB x=(bl a).length:=by rw[eB,f,JH]
 have j:eB y=(bl b).length:=by rw[eB,g,JH]
 rw[i,j];simp only[Xa,f,g,qwy k (show 100<=n by omega),qwy m (show 100<=n by omega),aN];by_cases c:((bl a).length:Int)>((bl b).length:Int);simp only[c,yC,zC,aN];exact⟨true,rfl,fun _=>af,fun h=>by cases h⟩;simp only[c,yB,zD];by_cases e:((bl a).length:Int)=((bl b).length:Int);have:(((bl a).length:Int)==((bl b).length:Int))=true:=by simpa using e
 simp only[this,zC,aN];exact⟨_,rfl,fun _=>af,fun _=>af⟩;have:(((bl a).length:Int)==((bl b).length:Int))=false:=by simpa using e
 simp only[this,zD,aN];exact⟨false,rfl,fun h=>(by cases h),fun _=>af⟩
structure CI(nm:Nat->V cb)(ws:X Nat)(l:X dW):Prop where
 perm:(l.map dW.Code).Perm (ws.map bt)
 p6:∀w∈ws,∃x∈l,x.Code=bt w/\nm w=some x.Name
 gC:l.Pairwise fun a b=>eB b<=eB a
variable{nm:Nat->V cb}{l:X dW}
def CI.len(h:CI nm ws l):l.length=ws.length:=by
 have:=h.perm.length_eq
 rwa [yA,yA]at this
def CI.gT(h:CI nm ws l):∀x∈l,∃w∈ws,x.Code=bt w:=fun x g=>by
 have:=h.perm.mem_iff.1<|X1 (f:=dW.Code) g;have⟨w,c,e⟩:=mem_map.1 this;exact⟨w,c,e.symm⟩
def qk(h:CI nm ws l)(S:l.length<=300)(t:∀w∈ws,w<4096){w:Nat}(M:w<4096){s:cb}(L:nm w=some s)(J:5000<=n){p:Int}{rc:Int->X dW->V (X dW×Int)}{Q:X dW×Int->Prop}
  (E:∀B,CI nm (ws++[w]) B->∃r,rc (i64.wrap<|p+1) B=some r/\Q r):
  ∀(m z:Nat),z<m->z<=l.length->(∀y∈l.drop z,eB y<=eB ⟨s,bt w⟩)->∃r,Pa n p l rc s (bt w) m z=some r/\Q r:=by
 have j:∀z,z<=l.length->(∀y∈l.drop z,eB y<=eB ⟨s,bt w⟩)->(∀y∈l.take z,eB ⟨s,bt w⟩<=eB y)->∃r,Xz p l rc s (bt w) z=some r/\Q r:=by
  intro z u i R;have t1:((l.drop 0).take ((z:Int)).toNat)=l.take z:=by rw[Za,zZ]
  have t2:((l.drop<|0+((z:Int)).toNat).take (l.length-((z:Int)).toNat))=l.drop z:=by rw[zZ,Ty];exact zW aZ
  have tl:(l.take z).length=z:=by simp;omega
  have dl:(l.drop z).length=l.length-z:=by simp
  simp only[Xz,t1,t2];rw[gW af,gW (by rw[zZ];omega),gW (by rw[tl];omega),gW (by rw[tl];omega),gW af,gW (by rw[zZ];omega),gW (by rw[zU,tl,dl];simp;omega)];refine E _ ⟨?_,fun v f=>?_,?_⟩;have K:((l.take z++[dW.mk s<|bt w])++l.drop z).Perm (l++[dW.mk s<|bt w]):=by rw[zT];refine(perm_append_comm_assoc _ _ _).trans ?_;rw[l7];exact qc1
  refine(K.map dW.Code).trans ?_;rw[y_,y_];exact h.perm.append_right _;obtain f |f:=yD.1 f;have⟨x,c,q,G⟩:=h.p6 v f;refine⟨x,?_,q,G⟩;rw[<-l7 z l]at c;obtain c |c:=yD.1 c;exact mw _<|mw _ c;exact mr _ c;simp at f;subst f;exact⟨⟨s,bt v⟩,by simp,rfl,L⟩;have g:=h.gC;rw[<-l7 z l,oy]at g;rw[oy,oy];refine⟨⟨g.1,by simp,fun a e b k=>by simp at k;subst k;exact R a e⟩,g.2.1,fun a e b k=>?_⟩;obtain e |e:=yD.1 e;exact g.2.2 a e b k;simp at e;subst e;exact i b k
 intro m;induction m with
 |zero=>intro z hm;omega|succ m N=>
  intro z hm u i;unfold Pa;by_cases I:z=0;subst I;simp only[zV,Int.lt_irrefl,yB,zD,aN,show((0:Int)>0)=False by simp];have:=j 0 af i aZ
  rwa [zV]at this
  have F:decide ((z:Int)>0)=true:=by simp;omega
  have q:i64.wrap ((z:Int)-1)=((z-1:Nat):Int):=PK af af;have⟨y,o,D⟩:=fJ (l:=l) (show z-1<l.length by omega);have⟨v,f,H⟩:=h.gT y D;obtain⟨r,O,P,C⟩:=z1c (x:=⟨s,bt w⟩) (y:=y) rfl H M (t v f) J;simp only[F,zC,q,c9,o,aN,O];cases r with
  |true=>
   simp only[zC];refine N (z-1) af af fun x c=>?_;rw[bC o,show z-1+1=z by omega]at c;obtain rfl |c:=zI.1 c
   exact P rfl;exact i x c
  |false=>
   simp only[zD];refine j z u i fun x c=>?_;have g:=h.gC;rw[<-l7 (z-1) l,oy]at g;have:l.take z=l.take (z-1)++[y]:=by rw[<-jB o,show z-1+1=z by omega]
   rw[this]at c;obtain c |c:=yD.1 c;exact Zt (C rfl) (g.2.2 x c y (by rw[bC o];simp));simp at c;subst c;exact C rfl
def Ap(h:BC d):∃p,m9 d p/\∀s,m9 d s->pN d s p:=by
 have⟨l,i,E⟩:=h.ord;have q:∀s,m9 d s->s∈l:=fun s ⟨x,B,e⟩=>by
  apply qj;intro z;have v:=Vl (a:=s::l) (b:=d.map bG.Name) (nodup_cons.2 ⟨z,i.nodup.1⟩) fun t j=>by obtain rfl |j:=zI.1 j;rw[<-e];exact X1 B;obtain⟨y,C,rfl⟩:=i.nodup.2 t j;exact X1 C
  simp at v;omega
 obtain⟨g,o⟩:∃g,d.filter (fun x=>decide (x.F5=[]))=[g]:=length_eq_one_iff.1 h.one;have D:g∈d:=(mem_filter.1 (show g∈d.filter (fun x=>decide (x.F5=[])) by rw[o];simp)).1;refine⟨g.Name,⟨g,D,rfl⟩,fun s c=>?_⟩;have key:∀{l:X cb},Ord d l->∀s∈l,pN d s g.Name:=by
  intro l i;induction i with
  |nil=>intro s c;cases c| @snoc l x g1 g2 F r m=>
   intro s c;obtain c |c:=yD.1 c;exact m s c;simp at c;subst c;cases f:x.F5 with
   |nil=>have:x∈d.filter (fun x=>decide (x.F5=[])):=mem_filter.2 ⟨g2,by simp[f]⟩;rw[o]at this;simp at this;rw[this];exact .refl|cons u G=>
    have k:u∈x.F5:=by rw[f];simp
    exact pN.trans (.step .refl g2 rfl k) (m u<|r u k)
 exact key i s (q s c)
structure II(d:X bG)(l:X dW):Prop where
 ws:∃(nm:Nat->V cb)(c0 ws:X Nat),FI c0 ws/\TG ws/\CI nm ws l/\ws.length<=256/\0<ws.length
 y7:∀s,m9 d s->∃x∈l,x.Name=s
 top:∃w0,(∃x∈l,x.Code=bt w0)/\∀x∈l,w0&&&cw x.Code=cw x.Code
def II.len{d:X bG}{l:X dW}(h:II d l):l.length<=256/\0<l.length:=by have⟨nm,e,ws,f,g,c,i,j⟩:=h.ws;have:=c.len;omega
def II.gT{d:X bG}{l:X dW}(h:II d l):∀x∈l,∃w,x.Code=bt w/\w<4096/\w≠0:=fun x i=>by
 have⟨nm,j,ws,c,k,g,m,o⟩:=h.ws;have⟨w,f,e⟩:=g.gT x i;exact⟨w,e,(c.ok w f).1,(c.ok w f).2.1⟩
def z7j(hd:d.length<=12)(C:5000<=n):∃l e,QV n d=some (l,e)/\(e=0->BC d/\II d l):=by
 have⟨e,c1,c2⟩:=z1p hd C;simp[QV,c1,aN];by_cases Y:e=0;subst Y;have h:=c2 rfl;obtain⟨all,n1,n2⟩:=U5 (d:=d) af C;have mX:all.length<=12:=by have:=n2.len;simp at this;omega
 have q:∀s,s∈all↔m9 d s:=fun s=>by rw[n2.mem];simp[m9,fA]
 simp[ki,zD,n1,aN];have:=jG (l:=all) af (F:=fun m z (s:X Nat)=>Dg d n all m z<|s.map bt) (fun i s=>s.length=i/\(∀w∈s,w<4096)/\∀(j w:Nat)(t:cb),s[j]? = some w->all[j]? = some t->∀i:Nat,w.testBit i=true↔∃u,all[i]? = some u/\pN d u t) (Q:=fun r=>r.2=0->BC d/\II d r.1)
  (fun m i x s g aG S hw U ih=>by
   obtain⟨P,J,D⟩:=U;obtain⟨w,w1,w2,w3⟩:=zbv h mX ((q x).1 (zX g)) (fun y hy=>(q y).1 hy) C;simp only[Dg,S,zC,c9,g,aN,w1,hw,yA];rw[gW af];have:=ih (s++[w]) ⟨by simp;omega,fun v o=>by
    obtain o |o:=yD.1 o;exact J v o;simp at o;subst o;exact w2,fun j v t c f=>by
    by_cases e:j<s.length;rw[mc e]at c;exact D j v t c f;have:j=i:=by have:=(zG.1 c).1;simp at this;omega
    subst this;rw[mu af,P,mi]at c;simp at c;subst c;rw[g]at f;cases f;exact w3⟩
   rw[y_]at this;exact this)
  (fun m c0 S U=>by
   obtain⟨P,J,D⟩:=U;have R:∀(j w:Nat),c0[j]? = some w->w.testBit j=true:=fun j w c=>by obtain⟨t,f,_⟩:=fJ (l:=all) (show j<all.length by have:=(zG.1 c).1;omega);exact(D j w t c f j).2 ⟨t,f,.refl⟩
   have jd:c0.Nodup:=by rw[Nodup,qcL];intro a b O W SU e;obtain⟨s,hs,KX⟩:=fJ (l:=all) (show a<all.length by omega);obtain⟨t,f,htm⟩:=fJ (l:=all) (show b<all.length by omega);have ga:=lq O;have gb:=lq W;have M:=R a _ ga;have N:=R b _ gb;rw[e]at M;rw[<-e]at N;obtain⟨u,H,hu2⟩:=(D b _ t gb f a).1 M;obtain⟨v,o,vU⟩:=(D a _ s ga hs b).1 N;rw[hs]at H;cases H;rw[f]at o;cases o;have:=zdr h ((q s).1 KX) ((q t).1 htm) hu2 vU;subst this;obtain⟨p1,p2⟩:=zG.1 hs;obtain⟨q1,q2⟩:=zG.1 f;have:=(Gw n2.o6.nodup).1 (p2.trans q2.symm);omega
   have I:∀a∈c0,a<4096/\a≠0:=fun a O=>⟨J a O,fun e=>by obtain⟨j,c,G⟩:=mem_iff_getElem.1 O;have:=R j a (by rw[lq c,G]);rw[e]at this;simp at this⟩;obtain⟨ws,f1,f2,f3⟩:=z24 (c0:=c0) af jd I C;simp only[Dg,S,zD,na,f1,aN,yA];by_cases DV:(ws.length:Int)>256;simp only[DV,yC,zC];exact⟨_,rfl,fun h=>by cases h⟩;simp only[DV,yB,zD];have aT:ws.length<=256:=by omega
   have:=jG (l:=ws) af (F:=fun m z (s:X dW)=>RC d n all (c0.map bt) (ws.map bt) m z s) (fun i s=>CI (fun w=>Vw n d all (c0.map bt)<|bt w) (ws.take i) s) (Q:=fun r=>r.2=0->BC d/\II d r.1)
    (fun m' i w s g aG T nM B lY=>by
     have E:=zX g;have K:=f2.ok w E;obtain⟨t,t1,t2⟩:=qxz h mX (c0:=c0) P J K.1 C;have AA:(ws.map bt)[i]? = some (bt w):=by rw[me,g];rfl
     have KY:=B.len;rw[Yz]at KY;simp only[RC,yA,T,zC,c9,AA,aN,t1];refine qk (w:=w) (s:=t) B af (fun v o=>(f2.ok v<|Ey o).1) K.1 t1 C (fun l' tR=>?_) n s.length af af aZ;rw[nM];rw[<-jB g]at tR;exact lY l' tR)
    (fun m' s T B=>by
     rw[zW<|zF _]at B;simp only[RC,yA,T,zD,iz];have jK:0<ws.length:=by
      have AG:0<d.length:=by have:=h.one;obtain _|⟨x,d⟩:=d;simp at this;simp
      obtain⟨x,g,gM⟩:=fJ (l:=d) AG;have:=(q x.Name).2 ⟨x,gM,rfl⟩;have:=ZD this;obtain⟨t,f⟩:=f2.pre;rw[f,zU];omega
     have DH:∃w0,(∃x∈s,x.Code=bt w0)/\∀x∈s,w0&&&cw x.Code=cw x.Code:=by
      obtain⟨s0,q1,q2⟩:=Ap h;obtain⟨j,c,e⟩:=mem_iff_getElem.1<|(q s0).2 q1;have L:j<c0.length:=by omega
      obtain⟨p,Z⟩:=f2.pre;have E:c0[j]∈ws:=by rw[Z];exact mw _ (jh L)
      obtain⟨x,g,I_,_⟩:=B.p6 _ E;have full:∀i,i<all.length->(c0[j]).testBit i=true:=fun i hi=>by obtain⟨u,H,K_⟩:=fJ hi;exact(D j _ s0 (lq L) (by rw[lq c,e]) i).2 ⟨u,H,q2 u<|(q u).1 K_⟩
      refine⟨c0[j],⟨x,g,I_⟩,fun y hy=>?_⟩;obtain⟨w,hw,ew⟩:=B.gT y hy;rw[ew,JH];obtain⟨_,_,b,W,SU⟩:=f2.ok w hw;refine qb7 fun i=>?_;rw[wz];rcases J_:w.testBit i with _|_
      simp;have AU:b.testBit i=true:=by have:=congrArg (fun z=>z.testBit i) SU;simp only[wz,J_,Bool.true_and]at this;exact this
      obtain⟨k,hk,G⟩:=mem_iff_getElem.1 W;obtain⟨t,f,_⟩:=fJ (l:=all) (show k<all.length by omega);obtain⟨u,H,_⟩:=(D k b t (by rw[lq hk,G]) f i).1 AU;rw[full i (zG.1 H).1];rfl
     refine⟨_,rfl,fun _=>⟨h,⟨_,c0,ws,f2,f3 aT,B,aT,jK⟩,fun t f=>?_,DH⟩⟩;obtain⟨j,c,e⟩:=mem_iff_getElem.1<|(q t).2 f;have L:j<c0.length:=by omega
     have⟨p,Z⟩:=f2.pre;have E:c0[j]∈ws:=by rw[Z];exact mw _ (jh L)
     have⟨x,g,_,G⟩:=B.p6 _ E;refine⟨x,g,?_⟩;have⟨s2,t1,t2⟩:=qxz h mX (c0:=c0) P J (f2.ok _ E).1 C;rw[t1]at G;rw[<-Option.some.inj G];exact t2 j t jd (lq L)<|by rw[lq c,e]) n 0 [] af af ⟨by simp,by simp,Pairwise.nil⟩
   rw[zV]at this;exact this) n 0 [] af af ⟨rfl,by simp,fun j w t c=>by simp at c⟩
 rw[zV]at this;have⟨r,M,N⟩:=this;exact⟨r.1,r.2,M,N⟩;have:(e != 0)=true:=by simpa using Y
 simp only[this,zC];exact⟨[],e,rfl,fun h=>absurd h Y⟩
variable{n:Nat}
def qz7{x:bG}(q:x.E6.length<=256)(s:cb)(p:5000<=n):∃r,Wn n x s=some r/\(r.2=true->∃f∈x.E6,f.E2=s/\f.Value=r.1):=by
 have:=jG (l:=x.E6) af (F:=fun m z (_:Unit)=>Dc x s m z) (fun _ _=>True) (Q:=fun r=>r.2=true->∃f∈x.E6,f.E2=s/\f.Value=r.1)
  (fun m i f _ g o c j _ k=>by simp only[Dc,c,zC,c9,g,aN,MK,j];by_cases e:f.E2=s;simp only[e,yC,zC];exact⟨_,rfl,fun _=>⟨f,zX g,e,rfl⟩⟩;simp only[e,yB,zD];exact k () trivial)
  (fun m _ c _=>by simp only[Dc,c,zD,iq];exact⟨_,rfl,fun h=>by cases h⟩) n 0 () af af trivial
 rw[zV]at this;exact this
variable{l:X dW}
def P!(q:l.length<=256)(s:cb)(t:5000<=n):∃r,Of n l s=some r/\((∃x∈l,x.Name=s)->∃j:Nat,r=(j:Int)/\j<l.length):=by
 have:=jG (l:=l) af (F:=fun m z (_:Unit)=>Do l s m z) (fun i _=>∀x∈l.take i,x.Name≠s) (Q:=fun r=>(∃x∈l,x.Name=s)->∃j:Nat,r=(j:Int)/\j<l.length)
  (fun m i x _ g k h o f p=>by
   simp only[Do,h,zC,c9,g,aN,MK,o];by_cases e:x.Name=s;simp only[e,yC,zC];exact⟨_,rfl,fun _=>⟨i,rfl,k⟩⟩;simp only[e,yB,zD];refine p () fun y c=>?_;rw[jB g]at c;obtain c |c:=yD.1 c
   exact f y c;simp at c;subst c;exact e)
  (fun m _ h f=>by rw[zW<|zF _]at f;simp only[Do,h,zD,ov];exact⟨_,rfl,fun⟨x,g,e⟩=>absurd e<|f x g⟩) n 0 () af af aZ
 rw[zV]at this;exact this
variable{d:X bG}
def z7p(T:d.length<=12)(H:∀x∈d,x.E6.length<=256)(U:5000<=n):∃f,Cq n d=some f/\fM f/\f.length<=3072/\∀s∈f,∃x∈d,∃y∈x.E6,y.E2=s:=by
 have:=jG (l:=d) af (F:=fun m z s=>OA d n m s z) (fun i s=>fM s/\s.length<=256*i/\∀t∈s,∃x∈d,∃y∈x.E6,y.E2=t) (Q:=fun f=>fM f/\f.length<=3072/\∀s∈f,∃x∈d,∃y∈x.E6,y.E2=s)
  (fun m i x s p R g I e M=>by
   obtain⟨K,W,L⟩:=e;have B:=zX p;have J:=H x B;simp only[OA,g,zC];have:=jG (l:=x.E6) af (F:=fun v z c=>Dd d n i (OA d n m) v c z) (fun k c=>fM c/\c.length<=s.length+k/\∀t∈c,∃x∈d,∃y∈x.E6,y.E2=t) (Q:=fun f=>fM f/\f.length<=3072/\∀s∈f,∃x∈d,∃y∈x.E6,y.E2=s)
    (fun v k y c C Y h P u O=>by obtain⟨q,N,r⟩:=u;obtain⟨o,D,E,S,G⟩:=Mp (l:=c) af q y.E2 (show c.length<n by omega);simp only[Dd,c9,p,aN,h,zC,C,D,P];refine O o ⟨G,by omega,fun t j=>?_⟩;rcases(E t).1 j with rfl |j;exact⟨x,B,y,zX C,rfl⟩;exact r t j)
    (fun v c h u=>by obtain⟨q,N,r⟩:=u;simp only[Dd,c9,p,aN,h,zD,it,I];exact M c ⟨q,by omega,r⟩) n 0 s af af ⟨K,by omega,L⟩
   rw[zV]at this;exact this)
  (fun m s g e=>by simp only[OA,g,zD,iu];exact⟨s,rfl,e.1,by have:=e.2.1;omega,e.2.2⟩) n 0 [] af af ⟨Pairwise.nil,by simp,by simp⟩
 rw[zV]at this;exact this
def qzt(s:cb)(e:40<=n):∃r,Da n s=some r:=by have⟨r,c,_⟩:=qy0 s true e;exact⟨r,by simp[Da,c,aN]⟩
def GW(d:X bG)(n:Nat)(x:bG):Prop:=∀f∈x.E6,Da n f.E2=some true/\m9 d f.Value
def qmx(h:BC d)(M:5000<=n):∃e,Ys n d=some e/\(e=0->∀x∈d,GW d n x):=by
 have Y:=h.len;obtain⟨all,S,G⟩:=U5 (d:=d) af M;have mX:all.length<=12:=by have:=G.len;simp at this;omega
 have J:∀s,s∈all↔m9 d s:=fun s=>by rw[G.mem];simp[m9,fA]
 have:=jG (l:=d) af (F:=fun m z (_:Unit)=>G2 d n all m z) (fun i _=>∀x∈d.take i,GW d n x) (Q:=fun e=>e=0->∀x∈d,GW d n x)
  (fun m i x _ D W v N p P=>by
   have O:=(h.sF x<|zX D).2;simp only[G2,v,zC,c9,D,aN];have:=jG (l:=x.E6) af (F:=fun u z (_:Unit)=>OI n all i (G2 d n all m) x u z) (fun k _=>∀f∈x.E6.take k,Da n f.E2=some true/\m9 d f.Value) (Q:=fun e=>e=0->∀x∈d,GW d n x)
    (fun u k f _ q tP B T t R=>by
     obtain⟨r,H⟩:=qzt f.E2 (n:=n) af;simp only[OI,B,zC,c9,q,aN,H];obtain _|_:=r;exact⟨1,rfl,fun h=>by cases h⟩;simp only[Zr,zD];have hk:((k:Int)<=(x.E6.length:Int)):=by omega
     have key:∀(o j:Nat),k-j<o->j<=k->∃e,Po n all x k (OI n all i (G2 d n all m) x u) o j=some e/\(e=0->∀x∈d,GW d n x):=by
      intro o;induction o with
      |zero=>intro j hm;omega|succ o I=>
       intro j hm Z;unfold Po;by_cases U:j<k;obtain⟨g,L,_⟩:=fJ (l:=x.E6) (show j<x.E6.length by omega);have C:decide ((j:Int)<(k:Int))=true:=by simp;omega
       have K:i64.wrap ((j:Int)+1)=((j+1:Nat):Int):=PK af af;simp only[C,zC,c9,L,q,aN,K];obtain _|_:=mR g.E2 f.E2;exact I (j+1) af af;exact⟨4,rfl,fun h=>by cases h⟩;have C:decide ((j:Int)<(k:Int))=false:=by simp;omega
       simp only[C,zD,n_,c9,q,aN,QO (l:=all) af f.Value (n:=n) af,T];by_cases E:f.Value∈all;simp only[E,yC,Zr,zD];refine R () fun y c=>?_;rw[jB q]at c;obtain c |c:=yD.1 c
       exact t y c;simp at c;subst c;exact⟨H,(J _).1 E⟩;simp only[E,yB,eG,zC];exact⟨5,rfl,fun h=>by cases h⟩
     have:=key n 0 af af;rw[zV]at this;exact this)
    (fun u _ B t=>by
     rw[zW<|zF _]at t;simp only[OI,B,zD,o_,N];refine P () fun y c=>?_;rw[jB D]at c;obtain c |c:=yD.1 c
     exact p y c;simp at c;subst c;exact t) n 0 () af af aZ
   rw[zV]at this;exact this)
  (fun m _ v p=>by rw[zW<|zF _]at p;simp only[G2,v,zD,p_];exact⟨0,rfl,fun _=>p⟩) n 0 () af af aZ
 rw[zV]at this;simp[Ys,S,aN];exact this
def qxk(h:BC d)(s:cb)(k:5000<=n):∃r,Wo n d s=some r:=by
 have H:=h.len;have:=jG (l:=d) af (F:=fun m z t=>RB d s n m t z) (fun i t=>fM t/\t.length<=i) (Q:=fun _=>True)
  (fun m i x t c D f y j q=>by
   obtain⟨p,I⟩:=j;obtain⟨r,C,_⟩:=qz7 (h.sF x<|zX c).2 s k;simp only[RB,f,zC,c9,c,aN,C,Xx,y];cases r.2 with
   |true=>obtain⟨o,g,E,G,v⟩:=Mp (l:=t) af p x.Name (show t.length<n by omega);simp only[zC,g,aN];exact q o ⟨v,by omega⟩
   |false=>exact q t ⟨p,by omega⟩)
  (fun m t f j=>by
   obtain⟨out,B,J,K⟩:=qpd h (l:=t) (by have:=j.2;omega) k;simp only[RB,f,zD,ir,B,aN];by_cases e:(out.length:Int)=1;obtain⟨x,c,_⟩:=fJ (l:=out) (show 0<out.length by omega);have u:aB out 0=some x:=by rw[<-c];exact c9 0
   simp only[e,ki,zD,u,aN];exact⟨_,rfl,trivial⟩;have:((out.length:Int) != 1)=true:=by simpa using e
   simp only[this,zC];exact⟨_,rfl,trivial⟩) n 0 [] af af ⟨Pairwise.nil,by simp⟩
 rw[zV]at this;have⟨r,g,_⟩:=this;exact⟨r,g⟩
def db(h:II d l){i j:Nat}(o:i<l.length)(p:j<l.length)(t:5000<=n):∃b,VM n l i j=some b:=by have⟨x,q,m⟩:=fJ o;have⟨y,r,c⟩:=fJ p;have⟨a,e,f,_⟩:=h.gT x m;have⟨b,g,k,_⟩:=h.gT y c;simp only[VM,c9,q,r,aN,e,g,qoa k f<|show 5<=n by omega];exact⟨_,rfl⟩
def qle(h:BC d)(g:II d l)(U:∀x∈d,∀f∈x.E6,m9 d f.Value){t:Nat}(T:t<l.length)(s:cb)(u:5000<=n):∃w b,Pg n d l t s=some (bt w,b)/\w<4096:=by
 have hd:=h.len;have tQ:=g.len;have⟨G,qY,o⟩:=fJ (l:=l) tQ.2;have⟨w0,I,J,_⟩:=g.gT G o;have:=jG (l:=d) af (F:=fun m z (c:FK×Nat)=>VT d l t s n m c.1 (bt c.2) z) (fun _ c=>c.2<4096) (Q:=fun r=>∃w b,r=(bt w,b)/\w<4096)
  (fun m i x c E aG B W e D=>by have C:=zX E;have⟨r,r1,r2⟩:=qz7 (h.sF x C).2 s u;simp only[VT,B,zC,c9,E,aN,r1,W];rcases hr:r.2 with _|_;simp only[eG,zC,aN];exact D c e;have⟨p,p1,Z⟩:=P! (l:=l) af x.Name u;obtain⟨j,rfl,R⟩:=Z<|g.y7 _ ⟨x,C,rfl⟩;have⟨b,K⟩:=db g R T u;simp only[Zr,zD,p1,aN,K];obtain _|_:=b;simp only[eG,zC];exact D c e;have⟨f,P,_,L⟩:=r2 hr;have⟨q,q1,q2⟩:=P! (l:=l) af r.1 u;obtain⟨k,rfl,S⟩:=q2<|g.y7 _<|L ▸ U x C f P;have⟨y,Y,H⟩:=fJ S;obtain⟨v,v1,v2,_⟩:=g.gT y H;simp only[Zr,zD,q1,aN,c9,Y,v1,z9q e v2<|show 5<=n by omega];exact D (true,c.2&&&v)<|Hr qcw e)
  (fun m c B e=>by simp only[VT,B,zD,k_];exact⟨_,rfl,c.2,c.1,rfl,e⟩) n 0 (false,w0) af af J
 rw[zV]at this;obtain⟨r,N,w,b,rfl,O⟩:=this;have M:aB l 0=some G:=by rw[<-qY];exact c9 0
 exact⟨w,b,by simp[Pg,M,aN,I];exact N,O⟩
structure NA(d:X bG)(n:Nat)(l:X dW)(f:X cb):Prop where
 A0:BC d
 gT:QV n d=some (l,0)
 l8:II d l
 z8:Cq n d=some f
 o6:fM f
 len:f.length<=64
 val:∀x∈d,GW d n x
 mem:∀s∈f,∃x∈d,∃y∈x.E6,y.E2=s
def qsl(G:d.length<=12)(g:5000<=n):∃e,VF n d=some e/\(e=0->∃l f,NA d n l f):=by
 have⟨l,e,E,M⟩:=z7j G g;simp[VF,E,aN];by_cases q:e=0;subst q;have⟨h,u⟩:=M rfl;have Z:=u.len;have⟨f,f1,f2,f3,f4⟩:=z7p G (fun x B=>(h.sF x B).2) g;simp[ki,zD,f1,aN];by_cases J:(f.length:Int)>64;simp only[J,yC,zC];exact⟨7,rfl,fun h=>by cases h⟩;have⟨p,d1,d2⟩:=qmx h g;simp[J,yB,zD,d1,aN];by_cases c:p=0;subst c;have I:=d2 rfl;have K:NA d n l f:=⟨h,E,u,f1,f2,by omega,I,f4⟩;simp[ki,zD];have:=jG (l:=f) af (F:=fun m z (_:Unit)=>Df d n (l,0) f m z) (fun _ _=>True) (Q:=fun e=>e=0->∃l f,NA d n l f)
  (fun m i s _ v Y k N _ R=>by have⟨r,U⟩:=qxk h s g;simp only[Df,k,zC,c9,v,aN,U,N];obtain _|_:=r.2;exact⟨10,rfl,fun h=>by cases h⟩;exact R () trivial)
  (fun m _ k _=>by
   simp only[Df,k,zD,iy];have:=jG (l:=l) af (F:=fun m z (_:Unit)=>OB d n (l,0) f m z) (fun _ _=>True) (Q:=fun e=>e=0->∃l f,NA d n l f)
    (fun m t _ _ _ W o T _ S=>by
     simp only[OB,o,zC];have:=jG (l:=f) af (F:=fun C z (_:Unit)=>De d n (l,0) f t (OB d n (l,0) f m) C z) (fun _ _=>True) (Q:=fun e=>e=0->∃l f,NA d n l f)
      (fun C i s _ v H j L _ D=>by
       obtain⟨w,b,P,_⟩:=qle h u (fun x B y O=>(I x B y O).2) W s g;simp only[De,j,zC,c9,v,aN,P,L];obtain _|_:=b;exact D () trivial;simp only[zC,aN];cases (((bt w).length:Int)==0)with
       |true=>exact⟨11,rfl,fun h=>by cases h⟩|false=>exact D () trivial)
      (fun C _ j _=>by simp only[De,j,zD,iv,T];exact S () trivial) n 0 () af af trivial
     rw[zV]at this;exact this)
    (fun m _ o _=>by simp only[OB,o,zD,iw];exact⟨0,rfl,fun _=>⟨l,f,K⟩⟩) n 0 () af af trivial
   rw[zV]at this;exact this) n 0 () af af trivial
 rw[zV]at this;exact this;have:(p != 0)=true:=by simpa using c
 simp only[this,zC];exact⟨p,rfl,fun h=>absurd h c⟩;have:(e != 0)=true:=by simpa using q
 simp only[this,zC];exact⟨e,rfl,fun h=>absurd h q⟩
def z7r(e:II d l){w:Nat}(p:5000<=n):∃r,Vz n l (bt w)=some r:=by
 have q:=e.len;have:=jG (l:=l) af (F:=fun m z (_:Unit)=>Cy l n (bt w) m z) (fun _ _=>True) (Q:=fun _=>True)
  (fun m i x _ f o c j _ k=>by
   obtain⟨a,g,_⟩:=e.gT x<|zX f;simp only[Cy,c,zC,c9,f,aN,g,qrr (a:=a) (b:=w) (n:=n) af,j];cases decide (a=w)with
   |true=>exact⟨_,rfl,trivial⟩|false=>exact k () trivial)
  (fun m _ c _=>by simp only[Cy,c,zD,fq];exact⟨_,rfl,trivial⟩) n 0 () af af trivial
 rw[zV]at this;have⟨r,h,_⟩:=this;exact⟨r,by simp[Vz,zcl (w:=w) (n:=n) af,aN];exact h⟩
def z68(I:d.length<=12)(o:5000<=n):∃v e,Og n d=some (v,e)/\(e=0->∃l f,NA d n l f/\v.length=l.length):=by
 obtain⟨e,D,E⟩:=qsl I o;simp only[Og,D,aN];by_cases k:e=0;subst k;obtain⟨l,f,h⟩:=E rfl;have T:=h.l8.len;have R:=h.len;simp only[ki,zD,h.gT,h.z8,aN];have:=jG (l:=l) af (F:=fun m z s=>JT d n (l,0) f m z s) (fun i s=>s.length=i) (Q:=fun r=>r.2=0->∃l f,NA d n l f/\r.1.length=l.length)
  (fun m t _ s _ C g J u M=>by
   simp only[JT,g,zC];have:=jG (l:=f) af (F:=fun q z c=>RM d n (l,0) f t s (JT d n (l,0) f m) q z c) (fun i c=>c.length<=i) (Q:=fun r=>r.2=0->∃l f,NA d n l f/\r.1.length=l.length)
    (fun q i x c p S j O N B=>by
     obtain⟨w,b,L,_⟩:=qle h.A0 h.l8 (fun x p y K=>(h.val x p y K).2) C x o;simp only[RM,j,zC,c9,p,aN,L,Yf,O];cases b with
     |true=>obtain⟨r,P⟩:=z7r h.l8 (w:=w) o;simp only[zC,P,aN];rw[gW af];exact B _ (by simp;omega)
     |false=>exact B c af)
    (fun q c j N=>by simp only[RM,j,zD,ow,J];rw[gW af];exact M _ (by simp;omega)) n 0 [] af af aZ
   rw[zV]at this;exact this)
  (fun m s g u=>by simp only[JT,g,zD,re];exact⟨_,rfl,fun _=>⟨l,f,h,u⟩⟩) n 0 [] af af aZ
 rw[zV]at this;obtain⟨r,G,H⟩:=this;exact⟨r.1,r.2,G,H⟩;have:(e != 0)=true:=by simpa using k
 simp only[this,zC];exact⟨[],e,rfl,fun h=>absurd h k⟩
def z0j(h:II d l){t:Nat}(u:t<l.length)(o:5000<=n):∃r,dw n l t=some r:=by
 have E:=h.len;have:=jG (l:=l) af (F:=fun m z s=>G1 l t n m z s) (fun i s=>s.length<=i) (Q:=fun _=>True)
  (fun m k _ s _ q g v B e=>by
   obtain⟨b,f⟩:=db h q u o;simp only[G1,g,zC,f,aN,v];have go:∃r,VQ l t n k s (G1 l t n m) n true 0=some r/\True:=by
    have:=jG (l:=l) af (F:=fun p z b=>VQ l t n k s (G1 l t n m) p b z) (fun _ _=>True) (Q:=fun _=>True)
     (fun p i _ b _ x j C _ c=>by
      obtain⟨f,g1⟩:=db h q x o;obtain⟨D,g2⟩:=db h x u o;simp only[VQ,j,zC,C,g1,g2,aN];obtain _|_:=b;exact c false trivial;cases ((i:Int)==(t:Int))with
      |true=>exact c true trivial|false=>cases ((i:Int)==(k:Int))with|true=>exact c true trivial|false=>obtain _|_:=f;exact c true trivial;exact c _ trivial)
     (fun p b j _=>by
      simp only[VQ,j,zD,rf,Yj,v];cases b with
      |true=>simp only[zC];rw[gW af];exact e _ (by simp;omega)|false=>exact e s af) n 0 true af af trivial
    rw[zV]at this;exact this
   cases ((k:Int)==(t:Int))with|true=>simp only[zC,aN];exact e s af|false=>simp only[zD,aN];obtain _|_:=b;simp only[eG,zC];exact e s af;simp only[Zr,zD];exact go)
  (fun m s g B=>by simp only[G1,g,zD,rh];exact⟨_,rfl,trivial⟩) n 0 [] af af aZ
 rw[zV]at this;have⟨r,y,_⟩:=this;exact⟨r,y⟩
def qv3(g:5000<=n){f:X cb}(h:NA d n l f)(t:VF n d=some 0):∃r,Xy n d=some (r,0)/\r.map kH.Name=f:=by
 have E:=h.l8.len;have B:=h.len;have:=jG (l:=f) af (F:=fun m z s=>Ds d n (l,0) f m z s) (fun i s=>s.map kH.Name=f.take i) (Q:=fun r=>r.2=0/\r.1.map kH.Name=f)
  (fun m i x s j D e u c v=>by
   have⟨r,y⟩:=qxk h.A0 x g;have⟨q,q1,_⟩:=P! (l:=l) af r.1 g;have C:s.length=i:=by have:=congrArg List.length c;simp at this;omega
   simp only[Ds,e,zC,c9,j,aN,y,q1,u];rw[gW af];exact v _ (by rw[y_,c,jB j];rfl))
  (fun m s e c=>by rw[zW<|zF _]at c;simp only[Ds,e,zD,i_];exact⟨_,rfl,rfl,c⟩) n 0 [] af af aZ
 rw[zV]at this;have⟨r,k,o,p⟩:=this;refine⟨r.1,?_,p⟩;simp[Xy,t,aN,ki,zD,h.gT,h.z8,k];rw[<-o]
structure v?(d:X bG)(n:Nat)(h:cR):Prop where
 ex:∃l f,NA d n l f/\h.Types.map hX.Code=l.map dW.Code/\h.E6.map kH.Name=f
def qzp(q:d.length<=12)(g:5000<=n):∃h e,R3 n d=some (h,e)/\(e=0->v? d n h)/\(e≠0->h=⟨[],[]⟩):=by
 have⟨v,e,v1,K⟩:=z68 q g;simp[R3,v1,aN];by_cases o:e=0;subst o;have⟨l,f,h,O⟩:=K rfl;have P:=h.l8.len;have E:VF n d=some 0:=by
  have⟨e,p,M⟩:=qsl q g;by_cases k:e=0;rw[p,k];have:(e != 0)=true:=by simpa using k
  simp[Og,p,aN,this,zC,zA,zB]at v1;exact absurd v1.2 k
 have⟨N,g1,g2⟩:=qv3 g h E;simp[ki,zD,h.gT,aN];have:=jG (l:=l) af (F:=fun m z s=>Dq d n (v,0) (l,0) m z s) (fun i s=>s.map hX.Code=(l.take i).map dW.Code) (Q:=fun r=>r.2=0/\v? d n r.1)
  (fun m i x s t u j G c I=>by
   have⟨r,J⟩:=z0j h.l8 u g;have⟨y,H,_⟩:=fJ (l:=v) (show i<v.length by omega);have L:s.length=i:=by have:=congrArg List.length c;simp at this;omega
   simp only[Dq,j,zC,c9,t,H,aN,J,G];rw[gW af];exact I _ (by rw[y_,c,jB t,y_];rfl))
  (fun m s j c=>by rw[zW<|zF _]at c;simp only[Dq,j,zD,c_,g1,aN];exact⟨_,rfl,rfl,⟨l,f,h,c,g2⟩⟩) n 0 [] af af aZ
 rw[zV]at this;have⟨r,B,C,D⟩:=this;exact⟨r.1,r.2,B,fun _=>D,fun h=>absurd C h⟩;have:(e != 0)=true:=by simpa using o
 simp only[this,zC];exact⟨_,e,rfl,fun h=>absurd h o,fun _=>rfl⟩
end Go.Proofs
namespace Go.Proofs
open Go Go.Rx Go.Vx
structure mQ(h:cR)(ws:X Nat):Prop where
 gT:h.Types.map hX.Code=ws.map bt
 ok:∀w∈ws,w≠0/\w<4611686018427387904
 gR:ws.Nodup
 cls:TG ws
 len:ws.length<=1000
 pos:0<ws.length
 fl:h.E6.length<=1000
 top:∀w∈ws,(ws[0]?).getD 0&&&w=w
variable{h:cR}{ws:X Nat}
def mQ.tl(a:mQ h ws):h.Types.length=ws.length:=by have:=congrArg List.length a.gT;simpa using this
def mQ.at{h:cR}{ws:X Nat}(b:mQ h ws){i:Nat}{w:Nat}(c:ws[i]? = some w):∃t,h.Types[i]? = some t/\t.Code=bt w:=by
 have a:(h.Types.map hX.Code)[i]? = some (bt w):=by rw[b.gT,me,c];rfl
 rw[me]at a;rcases e:h.Types[i]? with _|t;rw[e]at a;cases a;rw[e]at a;exact⟨t,rfl,Option.some.inj a⟩
variable{n:Nat}
def z73(w:Nat)(i:5<=n):dq n [(w:Int)]=some (bt w):=by
 obtain⟨k,rfl⟩:=ox i;have d:i64.wrap ((1:Int)-1)=0:=wr (z:=0) af af;have e:aB [(w:Int)] 0=some (w:Int):=rfl;have b:sX [(w:Int)] 0 0=some []:=rfl;have c:sX [(w:Int)] 0 1=some [(w:Int)]:=rfl;have f:decide ((1:Int)>0)=true:=rfl;have g:decide ((0:Int)>0)=false:=rfl;show Dn [(w:Int)] (k+5) 1=_;rw[Dn,f,zC,d,e,aN,aN];by_cases a:w=0;have:((w:Int)==0)=true:=by simp[a]
 rw[this,zC,Dn,g,zD,aN,zD,Hv,b,a];rfl;have:((w:Int)==0)=false:=by simp[a]
 rw[this,zD,Hv,c,sZ a];rfl
variable{a:Nat}{b:Nat}
def zbk(f:a≠0/\a<4611686018427387904)(g:b≠0/\b<4611686018427387904)(i:5<=n):Vj n (bt a) (bt b)=some (bt<|a&&&b):=by obtain⟨k,rfl⟩:=ox i;have c:=TE (a:=a) (b:=b) af af;have d:=z73 (a&&&b) (n:=k+5) af;rw[sZ f.1,sZ g.1];have e:Vj (k+5) [(a:Int)] [(b:Int)]=Wx [(a:Int)] [(b:Int)] (k+5) [N6 .u64 (a:Int) (b:Int)]:=rfl;rw[e,c,Wx,d];rfl
def z1g(j:a≠0/\a<4611686018427387904)(l:b≠0/\b<4611686018427387904)(m:5<=n):Oe n (bt a) (bt b)=some (decide (a&&&b=a)):=by
 obtain⟨k,rfl⟩:=ox m;have⟨c,g,f⟩:=Zv (a:=a) (b:=b) af af;rw[sZ j.1,sZ l.1];have e:Oe (k+5) [(a:Int)] [(b:Int)]=cond ((Cf .u64 (a:Int) (b:Int)) != 0) (some false) (some true):=rfl;rw[e,g];by_cases d:c=0;have:=f.1 d;simp[d,this];have:¬ a&&&b=a:=fun q=>d<|f.2 q;have i:((c:Int) != 0)=true:=by simpa using d
 simp[this,i]
def Kf(d:a≠0/\a<4611686018427387904)(f:b≠0/\b<4611686018427387904)(g:5<=n):We n (bt a) (bt b)=some (decide (a=b)):=by
 rw[We,z1g d f g,z1g f d g];by_cases h:a&&&b=a;by_cases c:b&&&a=b;have:a=b:=by rw[<-h,IB,c]
 simp[h,c,this,aN];have:a≠b:=fun e=>c (by rw[<-e,Gc]);simp[h,c,this,aN];have:a≠b:=fun e=>h (by rw[<-e,Gc]);simp[h,this,aN]
def zae{h:cR}{ws:X Nat}(d:mQ h ws){c:Nat}(j:c∈ws){n:Nat}(p:5<=n):∀(m i:Nat),ws.length-i<m->i<=ws.length->(∀(k:Nat),k<i->ws[k]? ≠some c)->∃k:Nat,Pv h.Types (bt c) (Od n) m (i:Int)=some (k:Int)/\ws[k]? = some c
 |0,i,hm,_,_=>by omega
 |m+1,i,hm,B,o=>by
  have x:=d.tl;have y:=d.len;have⟨q,r⟩:=mem_iff_getElem?.1 j;have A:=(zG.1 r).1;have g:i<ws.length:=by obtain f |f:=Zd q i;exact absurd r<|o q f;omega
  have⟨w,l,s⟩:=fJ g;have⟨t,z,v⟩:=d.at l;have f:=Kf (d.ok w s) (d.ok c j) p;simp only[Pv,x,iU g,zC,c9,z,aN,Od,v,f];by_cases e:w=c;simp only[e,yC,zC];exact⟨i,rfl,by rw[l,e]⟩;simp[e,yB,zD,kE g<|show ws.length<=9223372036854775807 by omega];exact zae d j p m (i+1) af af (fun k C=>by by_cases u:k=i;subst u;rw[l];intro q;exact e<|Option.some.inj q;exact o k af)
def zch(c:mQ h ws){i j:Nat}(g:ws[i]? = some a)(l:ws[j]? = some b)(z:2000<=n):
  (a&&&b=0->FY n h (i:Int) (j:Int)=some (0,false))/\(a&&&b≠0->∃k:Nat,FY n h (i:Int) (j:Int)=some ((k:Int),true)/\ws[k]? = some (a&&&b)):=by
 have⟨t,x,w⟩:=c.at g;have⟨A,p,o⟩:=c.at l;have m:=zX g;have e:=zX l;have s:=zbk (c.ok a m) (c.ok b e) (n:=n) af;simp[FY,c9,x,p,aN,w,o,s];constructor;intro d;rw[d];rfl;intro d;have u:=c.cls a m b e d;have⟨k,f,v⟩:=zae c u (n:=n) af n 0 (by have:=c.len;omega) af (fun k y=>af);rw[zV]at f;have q:(((bt<|a&&&b).length:Int)==0)=false:=by rw[sZ d];rfl
 have r:decide ((k:Int)<0)=false:=by simp
 simp[q,zD,w_,f,aN,r];exact⟨k,rfl,v⟩
def eI(ws:X Nat)(t:Int):Nat:=(ws[t.toNat]?).getD 0
def HQ{t:Int}(h:0<=t/\t<(ws.length:Int)):ws[t.toNat]? = some (eI ws t):=by
 have:t.toNat<ws.length:=by omega
 rw[eI,lq this];rfl
def Zy(i:mQ h ws){s t:Int}(l:0<=s/\s<(ws.length:Int))(m:0<=t/\t<(ws.length:Int))(j:2000<=n):
  ∃r,FY n h s t=some r/\(r.2=false->eI ws s&&&eI ws t=0)/\(r.2=true->(0<=r.1/\r.1<(ws.length:Int))/\eI ws r.1=eI ws s&&&eI ws t):=by have⟨c,d⟩:=zch i (HQ l) (HQ m) j;rw[show((s.toNat:Nat):Int)=s by omega,show((t.toNat:Nat):Int)=t by omega]at c d;by_cases e:eI ws s&&&eI ws t=0;exact⟨_,c e,fun _=>e,fun q=>by cases q⟩;have⟨k,g,f⟩:=d e;refine⟨_,g,(fun q=>by cases q),fun _=>⟨?_,?_⟩⟩;have:=(zG.1 f).1;constructor;exact qch _;show(k:Int)<_;omega;show eI ws (k:Int)=_;rw[eI,zZ,f];rfl
def F4(c:X aD)(i:Nat):aD:=(c[i]?).getD ⟨-1,0,[]⟩
def lT(mt:Int->Int->V Int):Nat->X (Int×Int)->X aD->(Nat->Nat)->(Nat->Nat)->FK×X aD×(Nat->Nat)×(Nat->Nat)
 |0,_,c,e,d=>(true,c,e,d)|_+1,[],c,e,d=>(true,c,e,d)
 |k+1,p::W,c,e,d=>
  if e p.1.toNat=e p.2.toNat then lT mt k W c e d else
  match mt (F4 c<|e p.1.toNat).kind (F4 c<|e p.2.toNat).kind with
  |none=>(false,c,e,d)|some t=>lT mt k ((L9 (F4 c<|e p.1.toNat).E3 (F4 c<|e p.2.toNat).E3).reverse++W) (yT c (e p.1.toNat) (e p.2.toNat) t<|wJ (F4 c<|e p.1.toNat).E3 (F4 c<|e p.2.toNat).E3) (fQ e (e p.1.toNat)<|e p.2.toNat) (CT e d<|e p.2.toNat)
def wL(n:Nat)(h:cR)(s t:Int):V Int:=match FY n h s t with
 |some (r,true)=>some r|_=>none
def Mf(N:Nat)(p:Int×Int):Prop:=(0<=p.1/\p.1<(N:Int))/\(0<=p.2/\p.2<(N:Int))
def qU.F4{N D:Nat}{c e:Int}{cells:X aD}{f d:Nat->Nat}(h:qU N D c e cells f d){i:Nat}(j:i<N):cells[i]? = some (F4 cells i):=by have g:=h.len;rw[Go.Proofs.F4,lq af];rfl
variable{N:Nat}{A:Int}
def Dy{a b:X aI}(c:HS N A a)(d:HS N A b):∀p∈L9 a b,Mf N p:=fun p e=>by
 obtain⟨x,f,y,g,_,rfl⟩:=qvw e;exact⟨(c.ok x f).2.2,(d.ok y g).2.2⟩
structure fI(N D:Nat)(A TB:Int)(W:X (Int×Int))(c:X aD)(aA d:Nat->Nat):Prop where
 hp:qU N D A TB c aA d
 wi:∀p∈W,Mf N p
variable{D:Nat}{C:Int}{W:X (Int×Int)}{p:Int×Int}{c:X aD}{E:Nat->Nat}{d:Nat->Nat}
def fI.skip(h:fI N D A C (p::W) c E d):fI N D A C W c E d:=⟨h.hp,fun q e=>h.wi q<|lu _ e⟩
structure Two(N:Nat)(A C:Int)(c:X aD)(E:Nat->Nat)(m n:Nat):Prop where
 hm:m<N
 hn:n<N
 em:E m=m
 en:E n=n
 cm:c[m]? = some (F4 c m)
 cn:c[n]? = some (F4 c n)
 am:HS N A (F4 c m).E3
 an:HS N A (F4 c n).E3
 km:0<=(F4 c m).kind/\(F4 c m).kind<C
 kn:0<=(F4 c n).kind/\(F4 c n).kind<C
def fI.two(h:fI N D A C (p::W) c E d):Two N A C c E (E p.1.toNat) (E p.2.toNat):=by have⟨j,k⟩:=h.wi p aZ;have g:=h.hp.b9.lt p.1.toNat af;have i:=h.hp.b9.lt p.2.toNat af;have e:=h.hp.F4 g;have f:=h.hp.F4 i;exact⟨g,i,h.hp.b9.idem _ af,h.hp.b9.idem _ af,e,f,h.hp.ar _ _ e,h.hp.ar _ _ f,h.hp.kd _ _ e,h.hp.kd _ _ f⟩
def fI.next(h:fI N D A C (p::W) c E d)(f:E p.1.toNat≠E p.2.toNat){t:Int}(i:0<=t/\t<C):
  fI N (D+1) A C ((L9 (F4 c<|E p.1.toNat).E3 (F4 c<|E p.2.toNat).E3).reverse++W) (yT c (E p.1.toNat) (E p.2.toNat) t<|wJ (F4 c<|E p.1.toNat).E3 (F4 c<|E p.2.toNat).E3) (fQ E (E p.1.toNat)<|E p.2.toNat) (CT E d<|E p.2.toNat):=by have T:=h.two;have g:=Nn _ _ T.am.up T.an.up;refine⟨h.hp.U1 T.hm T.hn T.em T.en f (g.ok T.am T.an) i,fun q e=>?_⟩;obtain e |e:=yD.1 e;exact Dy T.am T.an q<|mem_reverse.1 e;exact h.wi q (lu _ e)
def Two.L4{N:Nat}{A C:Int}{c:X aD}{E:Nat->Nat}{m n:Nat}(T:Two N A C c E m n)(e:m≠n)(t:Int)(W:X (Int×Int)):((L9 (F4 c m).E3 (F4 c n).E3).reverse++W).length+L4 (yT c m n t<|wJ (F4 c m).E3 (F4 c n).E3)=W.length+L4 c:=by have:=zdm T.cm T.cn e t<|Nn _ _ T.am.up T.an.up;simp[zU,length_reverse];omega
def ju(W:X (Int×Int)):X fB:=(W.map pk).reverse
def z94(p:Int×Int)(W:X (Int×Int)):ju (p::W)=ju W++[pk p]:=by simp[ju]
def zdh(W:X (Int×Int))(l:X (Int×Int)):ju W++l.map pk=ju (l.reverse++W):=by simp[ju]
def z5t(W:X (Int×Int)):(ju W).length=W.length:=by simp[ju]
variable{F:Type}
def Ed(l:X F)(x:F)(e:l.length<=1000000000):decide (((l++[x]).length:Int)>0)=true/\i64.wrap (((l++[x]).length:Int)-1)=(l.length:Int)/\aB (l++[x]) (l.length:Int)=some x/\(l++[x]).take l.length=l:=by refine⟨by simp,?_,?_,by simp⟩;simp[zU,zO,zS];exact PK af af;rw[c9];simp
def Jl(x:F)(l:X F):sX (x::l) 1 ((x::l).length:Int)=some l:=by
 rw[sX,lr (by simp[zO];omega)];have:(((x::l).length:Int)-1).toNat=l.length:=by simp only[zO];omega
 simp[this]
def H?(x:F)(l:X F):aB (x::l) 0=some x:=by have:(0:Int)=((0:Nat):Int):=rfl;rw[this,c9];rfl
def Uf{h:cR}{ws:X Nat}(i:mQ h ws){s t:Int}(k:0<=s/\s<(ws.length:Int))(l:0<=t/\t<(ws.length:Int)){n:Nat}(j:2000<=n):
  (wL n h s t=none/\(∃r,FY n h s t=some r/\r.2=false)/\eI ws s&&&eI ws t=0)\/(∃r,wL n h s t=some r/\FY n h s t=some (r,true)/\(0<=r/\r<(ws.length:Int))/\eI ws r=eI ws s&&&eI ws t):=by have⟨⟨r,b⟩,e,g,f⟩:=Zy i k l j;obtain _|_:=b;exact .inl ⟨by rw[wL,e],⟨_,e,rfl⟩,g rfl⟩;exact .inr ⟨r,by rw[wL,e],e,(f rfl).1,(f rfl).2⟩
def p'{mt:Int->Int->V Int}{N:Nat}{A C:Int}(g:∀s t r,(0<=s/\s<C)->(0<=t/\t<C)->mt s t=some r->0<=r/\r<C):∀(k:Nat)(W:X (Int×Int))(c:X aD)(E d:Nat->Nat)(D:Nat),fI N D A C W c E d->W.length+L4 c<k->
  ∃f,f+L4 (lT mt k W c E d).2.1<=D+W.length+L4 c/\qU N f A C (lT mt k W c E d).2.1 (lT mt k W c E d).2.2.1 (lT mt k W c E d).2.2.2
 |0,W,c,E,d,D,h,j=>by omega
 |k+1,[],c,E,d,D,h,j=>⟨D,by simp[lT],h.hp⟩|k+1,p::W,c,E,d,D,h,j=>by simp[zO]at j ⊢;unfold lT;by_cases e:E p.1.toNat=E p.2.toNat;rw[lr e];have⟨f,l,i⟩:=p' g k W c E d D h.skip af;exact⟨f,by omega,i⟩;rw[hF e];have T:=h.two;rcases hm:mt (F4 c<|E p.1.toNat).kind (F4 c<|E p.2.toNat).kind with _|t;exact⟨D,by simp,h.hp⟩;have m:=g _ _ _ T.km T.kn hm;have o:=T.L4 e t W;have⟨f,l,i⟩:=p' g k _ _ _ _ (D+1) (h.next e m) af;exact⟨f,by simp only;omega,i⟩
structure N9(h:cR)(f:az):Prop where
 sm:cT f 12
 ne:0<f.D9.length
 r6:∀x∈f.D9,(0<=x.R/\x.R<(h.Types.length:Int))/\HS f.D9.length (h.E6.length:Int) x.E4
 can:cU f 0=f
 K5:jP f
def z9x{h:cR}{z:Int}{rc:Int->V Int}{x:aK}{Q:Prop}(o:x.E4.length<=12)(t:∃r,rc (i64.wrap<|z+1)=some r/\(r=0->Q)):∀(m k:Nat),x.E4.length-k<m->k<=x.E4.length->∃r,Oy h z rc x m (k:Int)=some r/\(r=0->Q/\∀a∈x.E4.drop k,a.E2<(h.E6.length:Int))
 |0,k,hm,_=>by omega
 |m+1,k,hm,s=>by unfold Oy;by_cases e:k<x.E4.length;have⟨a,f,_⟩:=fJ e;simp only[iU e,zC,c9,f,aN,kE e<|show x.E4.length<=9223372036854775807 by omega];by_cases l:a.E2>=(h.E6.length:Int);simp only[l,yC,zC];exact⟨_,rfl,fun q=>by cases q⟩;simp only[l,yB,zD];obtain⟨r,j,i⟩:=z9x o t m (k+1) af af;refine⟨r,j,fun q=>⟨(i q).1,fun b g=>?_⟩⟩;rw[bC f]at g;obtain rfl |g:=zI.1 g;omega;exact(i q).2 b g;simp only[j9 e,zD,ip,bW e];obtain⟨r,j,i⟩:=t;exact⟨r,j,fun q=>⟨i q,fun a f=>by cases f⟩⟩
def z9w{h:cR}{f:az}{n:Nat}{v:az×Int}{Q:Prop}(k:cT f 12)(H:12<n)(o:∃r,Oz f n v=some r/\(r=0->Q)):∀(m i:Nat),f.D9.length-i<m->i<=f.D9.length->∃r,VL h f n v m (i:Int)=some r/\(r=0->Q/\∀x∈f.D9.drop i,x.R<(h.Types.length:Int)/\∀a∈x.E4,a.E2<(h.E6.length:Int))
 |0,i,hm,_=>by omega
 |m+1,i,hm,J=>by have I:=k.nodes;unfold VL;by_cases e:i<f.D9.length;have⟨x,t,B⟩:=fJ e;have w:=k.E3 x B;simp only[iU e,zC,c9,t,aN];by_cases s:x.R>=(h.Types.length:Int);simp only[s,yC,zC];exact⟨_,rfl,fun q=>by cases q⟩;simp[s,yB,zD];have u:=z9w (h:=h) k H o m (i+1) af af;rw[<-kE e (show f.D9.length<=9223372036854775807 by omega)]at u;have⟨r,j,l⟩:=z9x (h:=h) (z:=(i:Int)) (x:=x) w u n 0 af af;rw[zV]at j;refine⟨r,j,fun q=>?_⟩;have⟨⟨q1,q2⟩,q3⟩:=l q;refine⟨q1,fun y g=>?_⟩;rw[bC t]at g;obtain rfl |g:=zI.1 g;exact⟨by omega,by rw[Za]at q3;exact q3⟩;exact q2 y g;simp only[j9 e,zD,bW e];obtain⟨r,j,l⟩:=o;exact⟨r,j,fun q=>⟨l q,fun a G=>by cases G⟩⟩
def Jq{f:az}(i:cT f 12)(h:cR){n:Nat}(y:3000000<=n):∃r,Ny n h f=some r/\(r=0->N9 h f):=by
 have l:=qw6 i af (n:=n) (show 2*12+4<=n by omega);by_cases e:IP f=0;rw[lr e]at l;obtain⟨g1,g2,j⟩:=qst.1 e;have i8:gD f 0:=⟨by omega,by omega⟩;have s:=i.canon j (r:=0) i8;have q2:=tn (f:=f) (g:=⟨(cU f 0).D9⟩) (n:=n) (i.up af) (s.up af) y;have w:∃r,Oz f n (cU f 0,0)=some r/\(r=0->f=cU f 0):=by simp only[Oz,q2,aN];cases u:(Ju f ⟨(cU f 0).D9⟩==0);exact⟨_,rfl,fun q=>by cases q⟩;exact⟨_,rfl,fun _=>G'.1<|by simpa using u⟩
 obtain⟨r,o,z⟩:=z9w (h:=h) i af w n 0 (by have:=i.nodes;omega) af;rw[zV]at o;refine⟨r,by simp only[Ny,l,aN];exact o,fun q=>?_⟩;obtain⟨q1,q3⟩:=z q;rw[Za]at q3;have v:=Cc j i8;refine⟨i,by omega,fun x k=>⟨⟨(j x k).ty,(q3 x k).1⟩,?_,fun a m=>?_⟩,q1.symm,j⟩;exact v.up x<|q1 ▸ k;have:=(j x k).L2 a m;exact⟨this.1,(q3 x k).2 a m,this.2⟩;rw[hF e]at l;have t:(IP f != 0)=true:=by simp[e]
 exact⟨IP f,by simp only[Ny,l,aN,t,zC],fun q=>absurd q e⟩
def za8{h:cR}{l:X az}(u:l.length<=1000000){n:Nat}(o:3000000<=n):∀(m i:Nat),l.length-i<m->i<=l.length->∃b,Ou h l n m (i:Int)=some b/\(b=true->∀f∈l.drop i,N9 h f)
 |0,i,hm,_=>by omega
 |m+1,i,hm,x=>by
  unfold Ou;by_cases e:i<l.length;have⟨f,j,_⟩:=fJ e;obtain⟨b,s,t⟩:=z82 f (n:=n) af;simp only[iU e,zC,c9,j,aN,s,kE e<|show l.length<=9223372036854775807 by omega];obtain _|_:=b;simp only[eG,zC,aN];exact⟨false,rfl,fun q=>by cases q⟩;obtain⟨r,v,w⟩:=Jq (t rfl) h o;simp only[Zr,zD,v,aN];cases y:(r != 0)with
  |true=>simp only[zC];exact⟨false,rfl,fun q=>by cases q⟩|false=>simp only[zD];obtain⟨b,g1,g2⟩:=za8 u o m (i+1) af af;refine⟨b,g1,fun q g k=>?_⟩;rw[bC j]at k;obtain rfl |k:=zI.1 k;exact w (by simpa using y);exact g2 q g k
  simp only[j9 e,zD,ie,bW e];exact⟨true,rfl,fun _ f j=>by cases j⟩
def zc4(h:cR){l:X az}(i:l.length<=1000000){n:Nat}(j:3000000<=n):∃b,da n h l=some b/\(b=true->∀f∈l,N9 h f):=by have⟨b,e,g⟩:=za8 (h:=h) i j n 0 af af;rw[zV]at e;exact⟨b,e,g⟩
def mB(k:Nat)(a:aI):aI:=⟨a.E2,a.To+(k:Int)⟩
def Qd(k:Nat)(x:aK):aD:=⟨-1,x.R,x.E4.map<|mB k⟩
def Ry{a:aI}{k:Nat}(h:0<=a.To/\a.To<1000)(e:k<=1000):i64.wrap (a.To+(k:Int))=a.To+(k:Int):=wr af af
def oK(a k:Nat):X Int:=(List.range k).map fun i=>((a+i:Nat):Int)
def tg(a k:Nat):oK a (k+1)=oK a k++[((a+k:Nat):Int)]:=by simp[oK,range_succ]
def NV(a k:Nat):(oK a k).length=k:=by simp[oK]
def Sb{k:Nat}{l:X aI}(h:gO l):gO (l.map<|mB k):=by unfold gO at*;rw[fo];exact h.imp fun{a b} q=>q
def zd8(a b:Nat):oK 0 a++oK a b=oK 0 (a+b):=by induction b with|zero=>simp[oK]|succ b e=>rw[tg,<-zT,e,<-ns,tg];simp
def xJ.init{N:Nat}{cells:X aD}(hl:cells.length=N):xJ N cells (oK 0 N) (cells.map aD.kind) (cells.map aD.E3) id (fun _=>0) where
 p9:=⟨fun i c hc _=>by have h1:=(zG.1 hc).1;rw[NV]at h1;rw[oK,me,getElem?_range h1]at hc;have:=Option.some.inj hc;simp[Ty]at this;exact this.symm,fun i c _ cB=>absurd rfl cB⟩
 lp:=NV 0 N
 lt:=by simp[hl]
 la:=by simp[hl]
 same i c hc _:=by rw[me,me,hc];exact⟨rfl,rfl⟩
variable{n:Nat}
def U'{E:Nat->Nat}{m i j:Nat}(h:E i=E j):fQ E m n i=fQ E m n j:=by unfold fQ;rw[h]
def O'{mt:Int->Int->V Int}{i j:Nat}:∀(k:Nat)(W:X (Int×Int))(c:X aD)(E d:Nat->Nat),E i=E j->(lT mt k W c E d).2.2.1 i=(lT mt k W c E d).2.2.1 j
 |0,W,c,E,d,h=>h|k+1,[],c,E,d,h=>h
 |k+1,p::W,c,E,d,h=>by unfold lT;by_cases e:E p.1.toNat=E p.2.toNat;rw[lr e];exact O' k W c E d h;rw[hF e];obtain _|t:=mt (F4 c<|E p.1.toNat).kind (F4 c<|E p.2.toNat).kind;exact h;exact O' k _ _ _ _ (U' h)
def TQ{mt:Int->Int->V Int}{N:Nat}{A C:Int}(i:∀s t r,(0<=s/\s<C)->(0<=t/\t<C)->mt s t=some r->0<=r/\r<C):∀(k:Nat)(W:X (Int×Int))(c:X aD)(E d:Nat->Nat)(D:Nat),fI N D A C W c E d->W.length+L4 c<k->(lT mt k W c E d).1=true->∀p∈W,(lT mt k W c E d).2.2.1 p.1.toNat=(lT mt k W c E d).2.2.1 p.2.toNat
 |0,W,c,E,d,D,h,j,_=>by omega
 |k+1,[],c,E,d,D,h,j,_=>fun p l=>by cases l
 |k+1,p::W,c,E,d,D,h,j,f=>by simp[zO]at j;have T:=h.two;unfold lT at f ⊢;by_cases e:E p.1.toNat=E p.2.toNat;rw[lr e]at f ⊢;intro q g;obtain rfl |g:=zI.1 g;exact O' k W c E d e;exact TQ i k W c E d D h.skip af f q g;rw[hF e]at f ⊢;rcases hm:mt (F4 c<|E p.1.toNat).kind (F4 c<|E p.2.toNat).kind with _|t;rw[hm]at f;cases f;rw[hm]at f;have m:=i _ _ _ T.km T.kn hm;have o:=T.L4 e t W;intro q g;obtain rfl |g:=zI.1 g;apply O' k _ _ _ _;simp[fQ,e];exact TQ i k _ _ _ _ (D+1) (h.next e m) af f q (mr _ g)
variable{h:cR}
def z3d{ws:X Nat}(g:mQ h ws)(i:2000<=n):∀s t r,(0<=s/\s<(ws.length:Int))->(0<=t/\t<(ws.length:Int))->wL n h s t=some r->0<=r/\r<(ws.length:Int):=fun s t r j k l=>by
 obtain⟨e,_⟩|⟨q,e,_,f,_⟩:=Uf g j k i;rw[e]at l;cases l;rw[e]at l;have:=Option.some.inj l;subst this;exact f
def Kb{a b:Nat}(k:b&&&a=a)(o:a<4096)(q:b<4096)(g:(bl b).length<=(bl a).length):a=b:=by
 have j:∀i,a.testBit i=true->b.testBit i=true:=fun i h=>by have:=congrArg (fun z=>z.testBit i) k;simp[wz,h,TP]at this;exact this
 have l:(List.range 64).filter (fun i=>a.testBit i)=((List.range 64).filter fun i=>b.testBit i).filter fun i=>a.testBit i:=by
  rw[filter_filter];refine filter_congr fun i _=>?_;rcases h:a.testBit i with _|_
  simp;simp[j i h]
 simp[bl,yA]at g;rw[l]at g;have m:((List.range 64).filter fun i=>b.testBit i).filter (fun i=>a.testBit i)=(List.range 64).filter fun i=>b.testBit i:=(filter_sublist).eq_of_length_le g;refine qb7 fun i=>?_;by_cases r:i<64;cases e:b.testBit i with
 |false=>rcases f:a.testBit i with _|_;rfl;rw[j i f]at e;cases e
 |true=>have:i∈(List.range 64).filter fun i=>b.testBit i:=mem_filter.2 ⟨mem_range.2 r,e⟩;rw[<-m]at this;exact(mem_filter.1 this).2
 rw[qcU (YR o<|Nat.pow_le_pow_right (n:=2) af<|show 12<=i by omega),qcU<|YR q<|Nat.pow_le_pow_right (n:=2) af<|show 12<=i by omega]
def v?.GX{d:X bG}(U:v? d n h):∃ws,mQ h ws:=by
 have⟨l,f,o,Q,R⟩:=U.ex;have⟨nm,c0,ws,g1,g2,H,g4,g5⟩:=o.l8.ws;have u:=o.l8.gT;have O:(l.map fun x=>cw x.Code).map bt=l.map dW.Code:=by rw[eF];apply X2;intro x V;have⟨w,i,_⟩:=u x V;simp[i,JH]
 have e:(l.map fun x=>cw x.Code).Perm ws:=by
  have:=H.perm.map cw;rw[eF,eF]at this;have P:ws.map (cw ∘ bt)=ws:=by have:(cw ∘ bt)=id:=funext fun w=>JH w;rw[this,LB]
  rw[P]at this;exact this
 refine⟨l.map fun x=>cw x.Code,⟨by rw[Q,O],fun w i=>?_,e.nodup_iff.2 g1.gR,fun a S b T M=>?_,?_,?_,?_,?_⟩⟩;have:=g1.ok w<|e.mem_iff.1 i;exact⟨this.2.1,by omega⟩;exact e.mem_iff.2<|g2 a (e.mem_iff.1 S) b (e.mem_iff.1 T) M;rw[e.length_eq];omega;rw[e.length_eq];omega;have:=congrArg List.length R;rw[yA]at this;have:=o.len;omega;intro w i;obtain⟨y,I,rfl⟩:=mem_map.1 i;have⟨q,⟨r,k,G⟩,v⟩:=o.l8.top;have B:=H.gC;rcases g:l with _|⟨z,l'⟩;rw[g]at k;cases k;simp[zQ,SC,jf];have j:z∈l:=by rw[g];simp
 have⟨K,t,Z,_⟩:=u z j;have⟨m,L,Y,_⟩:=u r k;have s:q=m:=by rw[<-JH q,<-JH m,<-G,<-L]
 have oP:eB r<=eB z:=by rw[g]at k B;obtain rfl |h:=zI.1 k;exact zF _;exact(pairwise_cons.1 B).1 r h
 have J:=v z j;rw[t,JH]at J;have:K=q:=Kb J Z (by rw[s];exact Y) (by
  have c1:eB r=(bl q).length:=by rw[eB,G,JH]
  have c2:eB z=(bl K).length:=by rw[eB,t,JH]
  omega)
 rw[t,JH,this];exact v y (by rw[g]at I;rw[g];exact I)
def wd(t:hX):Nat:=cw t.Code
def z_:X Nat->FK
 |[]=>true|x::l=>!(l.any fun y=>Nat.beq x y)&&z_ l
def okB(h:cR):FK :=
 (h.Types.all fun t=>match t.Code with |[z]=>decide (0<z)&&decide (z<4611686018427387904)|_=>false) &&
 z_ (h.Types.map wd)&&((h.Types.map wd).all fun a=>(h.Types.map wd).all fun b=>Nat.beq (a&&&b) 0||(h.Types.map wd).any fun c=>Nat.beq (a&&&b) c) &&
 ble h.Types.length 1000&&ble 1 h.Types.length&&ble h.E6.length 1000&&((h.Types.map wd).all fun w=>Nat.beq ((((h.Types.map wd)[0]?).getD 0)&&&w) w)
def zan:∀{l:X Nat},z_ l=true->l.Nodup
 |[],_=>Bc|x::l,h=>by simp[z_,eR,zp,any_eq_false]at h;refine nodup_cons.2 ⟨fun e=>?_,zan h.2⟩;have:=h.1 x e;simp at this
def En(i:okB h=true):∃ws,mQ h ws:=by
 simp only[okB,eR,rj,yv]at i;obtain⟨⟨⟨⟨⟨⟨o,q⟩,r⟩,s⟩,u⟩,v⟩,x⟩:=i;have k:∀t∈h.Types,t.Code=bt (wd t)/\wd t≠0/\wd t<4611686018427387904:=fun t g=>by
  have:=o t g;unfold wd;rcases f:t.Code with _|⟨z,l⟩;rw[f]at this;simp at this;cases l with
  |cons y l=>rw[f]at this;simp at this|nil=>rw[f]at this;simp at this;have e:cw [z]=z.toNat:=rfl;rw[e];exact⟨by rw[sZ af];congr 1;omega,by omega,by omega⟩
 refine⟨h.Types.map wd,⟨?_,fun w j=>?_,zan q,fun a B b i m=>?_,by rw[yA];exact s,by rw[yA];exact u,v,fun w j=>by have:=x w j;rw[Jd]at this;exact this⟩⟩;rw[eF];exact X2 fun t g=>(k t g).1;obtain⟨t,g,rfl⟩:=mem_map.1 j;exact(k t g).2;have:=r a B b i;rw[nH,Jd]at this;obtain h |h:=this
 exact absurd h m;have⟨c,f,e⟩:=any_eq_true.1 h;rw[Jd]at e;rw[e];exact f
def preB(m:Nat):a8 (Xi<|m+200) (fun d=>a8 (R3 (m+200) d) fun r=>some<|okB r.1)=some true:=ag
def Ec(h:200<=n):∃g ws,Pm n=some g/\mQ g ws:=by have:=preB<|n-200;rw[show n-200+200=n by omega]at this;rcases e:Xi n with _|d;rw[e]at this;cases this;rw[e,aN]at this;rcases f:R3 n d with _|r;rw[f]at this;cases this;rw[f,aN]at this;obtain⟨ws,i⟩:=En<|Option.some.inj this;exact⟨⟨r.1.Types,r.1.E6⟩,ws,by simp only[Pm,e,f,aN],i⟩
def zc6(d:X bG)(o:5000<=n):∃g ws,rz n d=some g/\mQ g ws:=by
 have⟨g,ws,s,k⟩:=Ec (n:=n) af;unfold rz;by_cases i:(d.length:Int)<=12;have⟨h,e,l,m,r⟩:=qzp (d:=d) af o;simp only[i,yC,zC,l,aN];by_cases j:e=0;subst j;obtain⟨f,q⟩:=(m rfl).GX;exact⟨⟨h.Types,h.E6⟩,f,rfl,q⟩;have:(e==0)=false:=by simpa using j
 simp only[this,zD];exact⟨g,ws,s,k⟩;simp only[i,yB,zD];exact⟨g,ws,s,k⟩
def eU{F:Type}{l:X F}{i:Nat}(h:i<l.length):∃x,l[i]? = some x:=⟨l[i],lq h⟩
variable{N:X PN}
def qsx{k:X PN}(c:CO N)(s:CO k)(e:Ex N.length N k){r:Nat}(z:r<N.length):cU (core k) (r:Int)=cU (core N) (r:Int):=by
 have y:=e.len;have at_:∀v,gD (core N) v->∃(i:Nat)(x j:PN),v=(i:Int)/\N[i]? = some x/\k[i]? = some j/\j.kind=x.kind/\j.E3=x.E3:=fun v f=>by have:=f.2;rw[jH]at this;have⟨x,g⟩:=eU (l:=N) (i:=v.toNat) (by have:=f.1;omega);have⟨j,m,o,u⟩:=e.st v.toNat x (by have:=f.1;omega) g;exact⟨v.toNat,x,j,by have:=f.1;omega,g,m,o,u⟩
 have S:tZ (core N) (core k) id (gD<|core N):=by refine⟨fun v f a t=>?_,fun _ _ _ _ h=>h,fun v f=>?_,fun v f=>?_⟩;obtain⟨i,x,j,rfl,g,q,m,o⟩:=at_ v f;rw[c.P4 g]at t;obtain⟨b,w,rfl⟩:=mem_map.1 t;have:=c.to g b w;exact⟨by simp only[gA];omega,by rw[jH];simp[gA];omega⟩;obtain⟨i,x,j,rfl,g,q,m,o⟩:=at_ v f;simp[id,HT g,HT q,cN,m];obtain⟨i,x,j,rfl,g,q,m,o⟩:=at_ v f;simp only[id,c.P4 g,s.P4 q,o];exact(map_id' _).symm
 have:=S.canon c.K5 s.K5 (r:=(r:Int)) ⟨by omega,by rw[jH];omega⟩ ⟨by omega,by rw[jH];omega⟩ ⟨by simp only[id];omega,by rw[jH];simp[id];omega⟩;exact this.2
def qe(k:Nat)(a:aI):eN:=⟨a.E2,k+a.To.toNat⟩
def oA(k:Nat)(x:aK):PN:=iD x.R (x.E4.map<|qe k)
def NG{F e:Type}{f:F->V e}{g:F->e}:∀{l:X F},(∀a∈l,f a=some (g a))->G9 f l=some (l.map g)
 |[],_=>rfl|a::l,h=>by rw[G9,h a aZ,aN,NG fun b i=>h b (by simp[i]),aN];rfl
def qd(k:Nat){a:aI}(h:0<=a.To):gA (qe k a)=mB k a:=by simp[gA,qe,mB,aI.mk.injEq,dG];omega
variable{P:PP}{f:az}{k:Nat}
def z44(e:cT f k)(q:k<=1000000)(j:0<f.D9.length)(o:jP f)(s:P.roots.length<=1000000):
  BO P f=some ((P.roots.length:Int),{ P with N:=P.N++f.D9.map (oA P.N.length),size:=i64.wrap<|P.size+f.D9.length,roots:=P.roots++[P.N.length] }):=by have r:=e.nodes;rw[BO,aE,lr ⟨j,by omega,s⟩,NG (g:=oA P.N.length) fun x i=>?_,aN];have:=e.E3 x i;rw[VY,aE,lr af,NG (g:=qe P.N.length) fun a m=>?_,aN];rfl;have l:=(o x i).L2 a m;rw[sd,Zh l.2,zC];rfl
def tx{x:aK}(h:∀a∈x.E4,0<=a.To):(oA k x).E3.map gA=x.E4.map (mB k):=by simp only[oA,iD,eF];exact X2 fun a e=>qd k (h a e)
def IX{l:X aI}(h:gO l):gO (l.map<|mB k):=by unfold gO at*;rw[fo];exact h.imp fun{a b} q=>q
def Dw(c:CO N)(t:cT f k)(v:k<=1000000)(l:jP f)(m:∀x∈f.D9,gO x.E4)(s:N.length+f.D9.length<=1000000):CO (N++f.D9.map (oA N.length)):=by
 have q:(core<|N++f.D9.map (oA N.length)).D9.length=N.length+f.D9.length:=by simp[jH]
 have o:∀x∈f.D9,∀a∈x.E4,0<=a.To:=fun x e a i=>((l x e).L2 a i).2.1;refine⟨fun y u=>?_,fun x e=>?_,by simp;exact s,fun x e=>?_⟩;rw[q];obtain⟨x,e,rfl⟩:=mem_map.1 u;obtain e |e:=yD.1 e
 have:=c.K5 (cN x)<|X1 e;rw[jH]at this;exact⟨this.ty,this.X3,fun a i=>by have:=this.L2 a i;omega⟩;obtain⟨z,g,rfl⟩:=mem_map.1 e;have j:=l z g;simp[cN,tx<|o z g];refine⟨j.ty,(IX<|m z g).X3,fun a i=>?_⟩;obtain⟨b,r,rfl⟩:=mem_map.1 i;have:=j.L2 b r;simp[mB];omega;obtain e |e:=yD.1 e;exact c.up x e;obtain⟨z,g,rfl⟩:=mem_map.1 e;rw[tx<|o z g];exact IX<|m z g;obtain e |e:=yD.1 e;exact c.sm x e;obtain⟨z,g,rfl⟩:=mem_map.1 e;have:=t.E3 z g;simp[oA,iD,yA];omega
def z4o(s:CO (N++f.D9.map (oA N.length)))(q:jP f)(w:∀x∈f.D9,gO x.E4){r:Nat}(G:r<f.D9.length):cU (core<|N++f.D9.map (oA N.length)) ((N.length+r:Nat):Int)=cU f (r:Int):=by
 have y:∀x∈f.D9,∀a∈x.E4,0<=a.To:=fun x e a j=>((q x e).L2 a j).2.1;have u:(core<|N++f.D9.map (oA N.length)).D9.length=N.length+f.D9.length:=by simp[jH]
 have at_:∀v,gD f v->∃(i:Nat)(x:aK),v=(i:Int)/\i<f.D9.length/\f.D9[i]? = some x/\nd f v=x/\(N++f.D9.map (oA N.length))[N.length+i]? = some (oA N.length x):=fun v g=>by have z:=g.1;have B:=g.2;have⟨x,e⟩:=eU (l:=f.D9) (i:=v.toNat) af;refine⟨v.toNat,x,by omega,by omega,e,by simp[nd,e],?_⟩;rw[mu af,qi,me,e];rfl
 have S:tZ f (core<|N++f.D9.map (oA N.length)) (fun v=>v+(N.length:Int)) (gD f):=by refine⟨fun v g a j=>?_,fun _ _ _ _ h=>af,fun v g=>?_,fun v g=>?_⟩;obtain⟨i,x,rfl,t,e,m,o⟩:=at_ v g;have j:=uZ.1 j;rw[m]at j;have:=(q x<|zX e).L2 a j;exact⟨this.2.1,this.2.2⟩;obtain⟨i,x,rfl,t,e,m,o⟩:=at_ v g;rw[show((i:Int)+(N.length:Int))=((N.length+i:Nat):Int) by omega,HT o,m];rfl;obtain⟨i,x,rfl,t,e,m,o⟩:=at_ v g;rw[show((i:Int)+(N.length:Int))=((N.length+i:Nat):Int) by omega,s.P4 o,tx<|y x<|zX e,Go.Proofs.P4,m,cd<|w x<|zX e];rfl
 have:=S.canon q s.K5 (r:=(r:Int)) ⟨by omega,by omega⟩ ⟨by omega,by omega⟩ ⟨by omega,by rw[u];omega⟩;rw[show((N.length+r:Nat):Int)=(r:Int)+(N.length:Int) by omega];exact this.2
def zay(N:X PN)(f:az):Ex N.length N (N++f.D9.map (oA N.length)):=⟨by simp,fun i x e g=>⟨x,by rw[mc e];exact g,rfl,rfl⟩⟩
def N9.CJ{h:cR}(e:N9 h f):∀x∈f.D9,gO x.E4:=fun x g=>(e.r6 x g).2.up
structure Has(P:PP)(fs:X az):Prop where
 co:CO P.N
 len:P.roots.length=fs.length
 at_:∀(k:Nat)(f:az),fs[k]? = some f->∃r,P.roots[k]? = some r/\r<P.N.length/\cU (core P.N) (r:Int)=f
def Has.new(H:cR):Has (wH H) []:=⟨⟨fun x e=>by simp[core,wH]at e,nofun,by simp[wH],nofun⟩,rfl,nofun⟩
def Has.put{j:X az}(p:Has P j){h:cR}(e:N9 h f)(u:P.N.length+f.D9.length<=1000000)(w:P.roots.length<=1000000):
  ∃i,BO P f=some ((P.roots.length:Int),i)/\Has i (j++[f])/\i.N.length=P.N.length+f.D9.length/\i.H=P.H/\i.gen=P.gen:=by
 have m:=Dw p.co e.sm bF e.K5 e.CJ u;refine⟨_,z44 e.sm bF e.ne e.K5 w,⟨m,by simp[p.len],fun k g l=>?_⟩,by simp,rfl,rfl⟩;by_cases o:k<j.length;rw[mc o]at l;have⟨r,q,s,t⟩:=p.at_ k g l;exact⟨r,by show(P.roots++_)[k]? = _;rw[mc (by rw[p.len];exact o)];exact q,by simp;omega,by rw[<-t];exact qsx p.co m (zay _ _) s⟩;have v:k<(j++[f]).length:=(zG.1 l).1;simp at v;have:k=j.length:=by omega
 subst this;simp at l;subst l;refine⟨P.N.length,by show(P.roots++_)[_]? = _;rw[<-p.len];simp,by have:=e.ne;simp;omega,?_⟩;have:=z4o m e.K5 e.CJ (r:=0) e.ne;rw[eT]at this;exact this.trans e.can
variable{n:Nat}
def Has.read{e:X az}(p:Has P e)(l:P.N.length<n)(h:e[k]? = some f):CW n P (k:Int)=some (f,true):=by have⟨r,g,i,j⟩:=p.at_ k f h;rw[z8k p.co l (r:=r) af (by rw[zZ];exact g) i,j]
variable{a:Int}{b:Int}
def qyc(h:¬ ((0<=a/\a<(P.roots.length:Int))/\0<=b/\b<(P.roots.length:Int))):H7 n P a b=some (none,P):=by rw[H7];by_cases e:a<0;rw[Zh e,zC];rw[Zb e,zD];by_cases g:b<0;rw[Zh g,zC];rw[Zb g,zD];by_cases i:a>=(P.roots.length:Int);rw[Zh i,zC];rw[Zb i,zD,Zh af,zC]
def z05(h:¬ ((0<=a/\a<(P.roots.length:Int))/\0<=b/\b<(P.roots.length:Int))):vP n P a b=some ((0,false),P):=by rw[vP,qyc h];rfl
def z4b(h:¬ ((0<=a/\a<(P.roots.length:Int))/\0<=b/\b<(P.roots.length:Int))):yY n P a b=some (false,P):=by rw[yY,qyc h];rfl
def vE(E:Nat->Nat)(a:aI):aI:=⟨a.E2,rI E a.To⟩
def G6(E:Nat->Nat)(c:aD):aK:=⟨c.kind,c.E3.map<|vE E⟩
def cG(cells:X aD)(E:Nat->Nat):az:=⟨cells.map<|G6 E⟩
def ZG{E:Nat->Nat}{l:X aI}(h:gO l):gO (l.map<|vE E):=by unfold gO at*;rw[fo];exact h.imp fun{a b} q=>q
def qU.K5{N D:Nat}{A C:Int}{cells:X aD}{E d:Nat->Nat}(h:qU N D A C cells E d):jP (cG cells E):=fun x q=>by
 obtain⟨c,o,rfl⟩:=mem_map.1 q;have⟨i,j⟩:=Zc o;have g:=h.ar i c j;refine⟨(h.kd i c j).1,(ZG g.up).X3,fun a hm=>?_⟩;obtain⟨b,m,rfl⟩:=mem_map.1 hm;have e:=g.ok b m;have l:=h.rI (v:=b.To) e.2.2;simp[cG,yA,h.len];exact⟨e.1,l⟩
def z3l{f:az}{o t:X Int}{u:Int}(g:∀a∈(nd f u).E4,a.To∈o):jX f (o++t) u=jX f o u:=by simp only[jX,aK.mk.injEq,dG];refine X2 fun a e=>?_;simp[o7,og,g a<|uZ.1 e,It]
def qU.nd{N D:Nat}{A C:Int}{cells:X aD}{E d:Nat->Nat}(h:qU N D A C cells E d){v:Int}(i:0<=v/\v<(N:Int)):Go.Proofs.nd (cG cells E) v=G6 E (pQ cells v)/\P4 (cG cells E) v=(pQ cells v).E3.map (vE E):=by
 have g:=h.oB i;have e:Go.Proofs.nd (cG cells E) v=G6 E (pQ cells v):=by simp[Go.Proofs.nd,cG,me,g,zM,jf]
 exact⟨e,by rw[P4,e];exact cd<|ZG (h.ar _ _ g).up⟩
def z5j(a b:X aK)(k:Int)(l:X aI):La (a++[⟨k,[]⟩]++b) a.length l=a++[⟨k,l⟩]++b:=by simp[La]
def z6a{N D B:Nat}{A C:Int}{cells:X aD}{E d:Nat->Nat}(h:qU N D A C cells E d)(J:L4 cells<=B):∀(k:Nat)(s:X Int×X aK)(v:Int),Sn N B s->(0<=v/\v<(N:Int))->N-s.1.length<k->rI E v ∉ s.1->
  eg cells E k s v=((s.1.length:Int),L5 (cG cells E) k s.1<|rI E v,s.2++((L5 (cG cells E) k s.1<|rI E v).drop s.1.length).map (jX (cG cells E)<|L5 (cG cells E) k s.1<|rI E v))
 |0,s,v,y,K,Z,_=>by omega
 |k+1,s,v,y,K,Z,hm=>by
  have Y:=h.K5;have hr:=h.rI K;have O:=y.snoc hr hm (pQ cells<|rI E v).kind;have U:=h.oB hr;have jo:=h.ar _ _ U;have⟨n1,M⟩:=h.nd hr;have z:(cG cells E).D9.length=N:=by simp[cG,h.len]
  have yF:=O.le;simp[zU,zO,zS]at yF;have key:∀(l:X aI),(∀a∈l,0<=a.To/\a.To<(N:Int))->∀(e:X Int×X aK)(j:X aI),Sn N B e->s.1.length+1<=e.1.length->
    ∃t,(l.map<|vE E).foldl (jT<|L5 (cG cells E) k) e.1=e.1++t/\(∀a∈l,rI E a.To∈e.1++t)/\(∀u∈t,∀a∈(Go.Proofs.nd (cG cells E) u).E4,a.To∈e.1++t)/\
     vK (eg cells E k) l e j=(j++l.map (fun a=>o7 (e.1++t)<|vE E a),e.1++t,e.2++t.map (jX (cG cells E)<|e.1++t)):=by
   intro l;induction l with
   |nil=>intro _ e j m I;exact⟨[],by simp,by simp,by simp,by simp[vK]⟩|cons a l L=>
    intro x e j m I;have q:=x a aZ;have Q:=h.rI q;rw[vK];by_cases i8:rI E a.To∈e.1;have o:eg cells E k e a.To=((e.1.idxOf (rI E a.To):Int),e):=by obtain⟨k',rfl⟩:=ox (show 1<=k by have:=m.le;omega);rw[eg,lr i8]
    rw[o];have⟨t,q1,q2,q3,q4⟩:=L (fun b g=>x b<|lu _ g) e (j++[⟨a.E2,(e.1.idxOf (rI E a.To):Int)⟩]) m I;refine⟨t,?_,?_,q3,?_⟩;rw[zQ,py];have:jT (L5 (cG cells E) k) e.1 (vE E a)=e.1:=by rw[jT,lr<|by exact i8]
    rw[this,q1];intro b g;obtain rfl |g:=zI.1 g;exact mw _ i8;exact q2 b g;rw[q4];have:o7 (e.1++t) (vE E a)=⟨a.E2,(e.1.idxOf (rI E a.To):Int)⟩:=by simp[o7,vE,og,i8,It]
    rw[zQ,this];simp;have o:=z6a h J k e a.To m q af i8;have jp:Seen (cG cells E) e.1:=⟨m.nd,fun u i=>by have:=m.U0 u i;rw[gD,z];exact this⟩;have⟨d1,⟨t1,d2⟩,d3,d4⟩:=Mc Y k e.1 (rI E a.To) jp (by rw[gD,z];exact Q) i8 (by rw[z];omega);have⟨v1,r,v3⟩:=N? h J k e a.To m q af;rw[o]at v1 r ⊢;simp only at v1 r ⊢;rw[d2]at v1 r ⊢;have H:∀u∈rI E a.To::t1,∀b∈(Go.Proofs.nd (cG cells E) u).E4,b.To∈e.1++rI E a.To::t1:=fun u i b g=>by by_cases G:u∈e.1;exfalso;have:=d1.nd;rw[d2,fF]at this;exact this.2.2 u G u i rfl;have:=d3 u (by rw[d2];exact mr _ i) G b g;rw[d2]at this;exact this
    rw[qcG]at v1 ⊢;have⟨t,q1,q2,q3,q4⟩:=L (fun b g=>x b<|lu _ g) _ (j++[⟨a.E2,(e.1.length:Int)⟩]) v1 (by simp only[zU,zO]at r ⊢;omega);simp only at q1 q2 q3 q4;refine⟨rI E a.To::t1++t,?_,?_,?_,?_⟩;rw[zQ,py];have:jT (L5 (cG cells E) k) e.1 (vE E a)=e.1++rI E a.To::t1:=by rw[jT,hF<|by exact i8];exact d2
    rw[this,q1];simp;intro b g;obtain rfl |g:=zI.1 g;simp;have:=q2 b g;simpa using this;intro u i b g;obtain i |i:=yD.1 i;have:=H u i b g;rw[zT]at*;simp only[yD]at this ⊢;obtain h |h:=this;exact .inl h;exact .inr<|.inl h;have:=q3 u i b g;simpa using this;rw[q4];have w:e.1++(rI E a.To::t1++t)=e.1++rI E a.To::t1++t:=by simp
    have S:o7 (e.1++rI E a.To::t1++t) (vE E a)=⟨a.E2,(e.1.length:Int)⟩:=by simp only[o7,vE,og,yD,i8,zI,true_or,or_true,It,MF,idxOf_cons_self];simp
    have T:(rI E a.To::t1).map (jX (cG cells E) (e.1++rI E a.To::t1++t))=(rI E a.To::t1).map (jX (cG cells E) (e.1++rI E a.To::t1)):=X2 fun u i=>z3l<|H u i;rw[w];refine Prod.ext ?_<|Prod.ext rfl ?_;show j++[_]++_=j++List.map _ (a::l);rw[zQ,S,zT];rfl;show e.2++_++_=e.2++List.map _ (rI E a.To::t1++t);rw[y_,T,zT]
  have⟨t,q1,q2,q3,q4⟩:=key _ (fun a q=>(jo.ok a q).2.2) (s.1++[rI E v],s.2++[⟨(pQ cells<|rI E v).kind,[]⟩]) [] O aZ;simp only at q1 q2 q3 q4;have V:L5 (cG cells E) (k+1) s.1 (rI E v)=s.1++rI E v::t:=by rw[L5,M,q1];simp
  rw[V,qcG,eg,hF hm];simp only[q4];have R:=y.len;rw[<-R,z5j,X0];have o:s.1++rI E v::t=s.1++[rI E v]++t:=by simp
  rw[o];have w:jX (cG cells E) (s.1++[rI E v]++t) (rI E v)=⟨(pQ cells<|rI E v).kind,(pQ cells<|rI E v).E3.map fun a=>o7 (s.1++[rI E v]++t)<|vE E a⟩:=by rw[jX,n1,M,eF];rfl
  rw[zQ,w];simp
end Go.Proofs
