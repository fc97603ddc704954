import Derived.Test.YtmflfedkfdkipaaGreatP17
set_option linter.all false
set_option maxRecDepth 10000
open List Go.IntKind
open Nat hiding beq_eq
namespace Go.Proofs
open Go Go.Rx Go.Vx Go.Shelf Go.Sort
variable{d:X bE}{n:Nat}
def z9s(h:AF d){all:X cB}(K:all.length<=12){s:cB}(D:lS d s)(B:∀x∈all,lS d x)(v:5000<=n):∃w,Ue n d all s=some (bt w)/\w<4096/\∀i,w.testBit i=true↔∃t,all[i]? = some t/\oN d t s:=by
 obtain⟨low,A,I,J,q⟩:=z4w h D v;have:=jA (l:=all) ag (F:=fun m z (s:X Nat)=>Q1 all n low m z<|s.map fun(i:Nat)=>(i:Int)) (fun i s=>s.length<=i/\∀j,j∈s↔j<i/\∃t,all[j]? = some t/\t∈low) (Q:=fun r=>∃w,r=bt w/\w<4096/\∀i,w.testBit i=true↔∃t,all[i]? = some t/\oN d t s)
  (fun m i x c p H k E o y=>by
   obtain⟨G,f⟩:=o;simp only[Q1,k,zC,cZ,p,aN,PM (l:=low) ag x (n:=n) ag,Vp,E,yA];by_cases hm:x∈low;simp only[hm,yC,zC];rw[lZ ag];have:=y (c++[i]) ⟨by simp;omega,fun j=>by rw[yD,f,mq];constructor;rintro(⟨b,a⟩|rfl);exact⟨by omega,a⟩;exact⟨by omega,x,p,hm⟩;rintro⟨b,a⟩;by_cases e:j=i;exact .inr e;exact .inl ⟨by omega,a⟩⟩;rw[LY]at this;exact this;simp only[hm,yB,zD];exact y c ⟨by omega,fun j=>by
    rw[f];constructor;rintro⟨b,a⟩;exact⟨by omega,a⟩;rintro⟨b,t,a,g⟩;refine⟨?_,t,a,g⟩;have:j≠i:=fun e=>by subst e;rw[p]at a;cases a;exact hm g
    omega⟩)
  (fun m c k o=>by
   obtain⟨G,f⟩:=o;have u:∀i∈c,i<12:=fun i C=>by have:=((f i).1 C).1;omega
   simp only[Q1,k,zD,tx,Xh (l:=c) ag u v,aN];refine⟨_,rfl,JL c,rfl,K_ c 0 u ag,fun i=>?_⟩;rw[JL,z8k];simp only[qcu,Bool.false_or,Gb];rw[f];constructor;rintro⟨_,t,b,a⟩;exact⟨t,b,((q t).1 a).2⟩;rintro⟨t,b,a⟩;exact⟨(zG.1 b).1,t,b,(q t).2 ⟨B t<|zX b,a⟩⟩) n 0 [] ag ag ⟨by simp,fun j=>ca⟩
 obtain⟨r,b,w,rfl,a,g⟩:=this;rw[zV]at b;exact⟨w,by simp only[Ue,A,aN];exact b,a,g⟩
structure FI(c0 ws:X Nat):Prop where
 pre:∃t,ws=c0++t
 iX:ws.Nodup
 ok:∀a∈ws,a<4096/\a≠0/\∃b∈c0,a&&&b=a
 len:ws.length<=257
def MB(f:X Nat)(i k:Nat):Prop:=∀c e a b,e<c->(c<i\/(c=i/\e<k))->f[c]? = some a->f[e]? = some b->a&&&b=0\/a&&&b∈f
variable{ws:X Nat}
def MB.app{t:X Nat}{i k:Nat}(h:MB ws i k)(p:i<ws.length):MB (ws++t) i k:=fun g o a b l m e f=>by
 have j:g<ws.length:=by omega
 rw[kl j]at e;rw[kl ag]at f;obtain c |c:=h g o a b l m e f;exact .inl c;exact .inr (vt _ c)
def um{c0:X Nat}{n:Nat}(w:5000<=n){i:Nat}{rc:Int->X (X Int)->A (X<|X Int)}{Q:X (X Int)->Prop}(D:i<=256)(q:∀f,FI c0 f->i<f.length->(f.length<=256->MB f (i+1) 0)->∃r,rc ((i+1:Nat):Int) (f.map bt)=some r/\Q r):
  ∀(m k:Nat)(ws:X Nat),i-k<m->k<=i->FI c0 ws->i<ws.length->(ws.length<=256->MB ws i k)->∃r,UW n i rc m k (ws.map bt)=some r/\Q r
 |0,k,ws,hm,_,_,_,_=>by omega
 |m+1,k,ws,hm,hk,j,o,l=>by
  have hl:=j.len;have P:i64.wrap ((i:Int)+1)=((i+1:Nat):Int):=MR ag ag;unfold UW;by_cases aH:k<i;have E:decide ((k:Int)<(i:Int))=true:=by simp;omega
  simp only[E,zC,yA];by_cases L:ws.length<=256;obtain⟨a,M,R⟩:=gO o;obtain⟨b,N,U⟩:=gO (show k<ws.length by omega);have F:decide ((ws.length:Int)<=256)=true:=by simp;omega
  have W:(ws.map bt)[i]? = some (bt a):=by rw[vz,M];rfl
  have gb:(ws.map bt)[k]? = some (bt b):=by rw[vz,N];rfl
  have S:i64.wrap ((k:Int)+1)=((k+1:Nat):Int):=MR ag ag;have p:=j.ok a R;have J:=j.ok b U;simp only[F,aN,zC,cZ,W,gb,z7p p.1 J.1 (show 5<=n by omega),Yj (ws:=ws) ag (b:=a&&&b) w,Wd,S];have K:∀t,(a&&&b=0\/a&&&b∈ws++t)->MB (ws++t) i (k+1):=fun t I B C x y H Y s u=>by by_cases e:B=i/\C=k;obtain⟨rfl,rfl⟩:=e;rw[kl o,M]at s;rw[kl ag,N]at u;cases s;cases u;exact I;exact(l L).app o B C x y H ag s u
  by_cases z:a&&&b=0;have G:decide (((bt<|a&&&b).length:Int)>0)=false:=by rw[z];simp[Y5]
  simp only[G,zD,aN];refine um w D q m (k+1) ws ag ag j o fun _=>?_;have:=K [] (.inl z)
  rwa [il]at this
  have G:decide (((bt<|a&&&b).length:Int)>0)=true:=by rw[tG z];simp
  simp only[G,zC,aN];by_cases v:a&&&b∈ws;simp only[v,yC,fX,zD];refine um w D q m (k+1) ws ag ag j o fun _=>?_;have:=K [] (.inr<|by simpa using v)
  rwa [il]at this
  simp only[v,yB,lf,zC];rw[lZ ag];have T:FI c0 (ws++[a&&&b]):=by obtain⟨t,I⟩:=j.pre;refine⟨⟨t++[a&&&b],by rw[I,zT]⟩,?_,fun c l=>?_,by simp;omega⟩;rw[f_];exact⟨j.iX,by simp,fun x hx y O e=>by simp at O;subst O;subst e;exact v hx⟩;obtain l |l:=yD.1 l;exact j.ok c l;simp at l;subst l;obtain⟨g,Z,V⟩:=p.2.2;refine⟨Gr SV p.1,z,g,Z,?_⟩;rw[Nat.and_assoc,KE b g,<-Nat.and_assoc,V]
  have:=um w D q m (k+1) (ws++[a&&&b]) ag ag T (by simp;omega) fun _=>K [a&&&b]<|.inr ca;rw[LY]at this;exact this;have F:decide ((ws.length:Int)<=256)=false:=by simp;omega
  simp only[F,aN,zD,Wb,P];exact q ws j o fun h=>absurd h L;have E:decide ((k:Int)<(i:Int))=false:=by simp;omega
  simp only[E,zD,aN,Wb,P];refine q ws j o fun h B C a b H Y s u=>l h B C a b H ag s u
def z82{c0:X Nat}{n:Nat}(g:5000<=n):∀(m i:Nat)(ws:X Nat),258-i<=m->i<=257->FI c0 ws->i<=ws.length->(ws.length<=256->MB ws i 0)->
  ∃r,NR n m i (ws.map bt)=some r/\∃a,r=a.map bt/\FI c0 a/\(a.length<=256->MB a a.length 0)
 |0,i,ws,hm,_,_,_,_=>by omega
 |m+1,i,ws,hm,k,c,o,f=>by
  have l:=c.len;unfold NR;simp only[yA];by_cases b:i<ws.length;by_cases j:ws.length<=256;have e:decide ((ws.length:Int)<=256)=true:=by simp;omega
  simp only[nL b,zC,e,aN];have:=um (c0:=c0) g (i:=i) (rc:=NR n m) (Q:=fun r=>∃a,r=a.map bt/\FI c0 a/\(a.length<=256->MB a a.length 0)) ag (fun a f1 f2 f3=>z82 g m (i+1) a ag ag f1 ag f3) n 0 ws ag ag c b f;rw[zV]at this;exact this;have e:decide ((ws.length:Int)<=256)=false:=by simp;omega
  simp only[nL b,zC,e,aN,zD,Wc];exact⟨_,rfl,ws,rfl,c,fun h=>absurd h j⟩;simp only[oD b,zD,aN,Wc];have:i=ws.length:=by omega
  exact⟨_,rfl,ws,rfl,c,this ▸ f⟩
def SO(ws:X Nat):Prop:=∀a∈ws,∀b∈ws,a&&&b≠0->a&&&b∈ws
def MB.all(h:MB ws ws.length 0):SO ws:=fun a j b m c=>by
 obtain⟨i,f,rfl⟩:=mem_iff_getElem.1 j;obtain⟨k,g,rfl⟩:=mem_iff_getElem.1 m;by_cases e:i=k;subst e;rw[Eu];exact j;by_cases l:k<i;exact(h i k _ _ l (.inl f) (hF f)<|hF g).resolve_left c;rw[KE]at c ⊢;exact(h k i _ _ ag (.inl g) (hF g)<|hF f).resolve_left c
def qzu{c0:X Nat}(l:c0.length<=12)(k:c0.Nodup)(g:∀a∈c0,a<4096/\a≠0)(j:5000<=n):∃ws,Ve n (c0.map bt)=some (ws.map bt)/\FI c0 ws/\(ws.length<=256->SO ws):=by obtain⟨r,c,ws,rfl,f,i⟩:=z82 (c0:=c0) j n 0 c0 ag ag ⟨⟨[],by simp⟩,k,fun a e=>⟨(g a e).1,(g a e).2,a,e,Eu a⟩,by omega⟩ ag (fun _ m o a b c f=>ag);rw[zV]at c;refine⟨ws,?_,f,fun h=>(i h).all⟩;rw[Ve,lZ (by rw[yA];omega)];exact c
def Dv{l:X cB}(o:l.length<=12)(g:∀s∈l,s.length<=32)(p:5000<=n):∃s,NK l n [] 0=some s:=by
 have:=jA (l:=l) ag (F:=fun m z s=>NK l m s z) (fun i s=>s.length<=33*i) (Q:=fun _=>True)
  (fun m i x s b k a h f c=>by
   have j:=g x<|zX b;simp only[NK,a,zC,Vo,cZ,b,aN,h];cases decide ((i:Int)>0)with
   |true=>simp only[zC];rw[lZ (by show s.length+1<=_;omega),lZ (by rw[zU];show s.length+1+x.length<=_;omega)];exact c _ (by rw[zU,zU];show s.length+1+x.length<=_;omega)|false=>simp only[zD];rw[lZ ag];exact c _ (by rw[zU];omega))
  (fun m s a f=>by simp only[NK,a,zD,tu];exact⟨s,rfl,trivial⟩) n 0 [] ag ag ca
 obtain⟨s,e,_⟩:=this;exact⟨s,e⟩
def qwe(h:AF d){all:X cB}(S:all.length<=12){c0:X Nat}(N:c0.length=all.length)(D:∀a∈c0,a<4096){w:Nat}(v:w<4096)(u:5000<=n):
  ∃s,Ud n d all (c0.map bt) (bt w)=some s/\∀(i:Nat)(t:cB),c0.Nodup->c0[i]? = some w->all[i]? = some t->s=t:=by
 have:=jA (l:=all) ag (F:=fun m z s=>Q0 d all (c0.map bt) (bt w) n m z s) (fun i (s:X cB)=>s.length<=i/\∀j,j<i->c0[j]? ≠some w) (Q:=fun s=>∀(i:Nat)(t:cB),c0.Nodup->c0[i]? = some w->all[i]? = some t->s=t)
  (fun m i x s f O g K b y=>by
   obtain⟨a,o,A⟩:=gO (l:=c0) (show i<c0.length by omega);have C:(c0.map bt)[i]? = some (bt a):=by rw[vz,o];rfl
   simp only[Q0,g,zC,cZ,C,f,aN,OY (D a A) v (show 5<=n by omega),z89 (w:=w) (n:=n) v (show i<64 by omega),Vn,K];by_cases e:a=w;subst e;simp only[yC,zC];refine⟨x,rfl,fun k t M G c=>?_⟩;obtain⟨R,L⟩:=zG.1 o;obtain⟨q1,q2⟩:=zG.1 G;have:i=k:=(IS M).1 (L.trans q2.symm);subst this;rw[f]at c;exact Option.some.inj c;have p:∀j,j<i+1->c0[j]? ≠some w:=fun j E=>by by_cases B:j=i;subst B;rw[o];exact fun h=>e<|Option.some.inj h;exact b.2 j ag
   simp only[e,yB,zD];cases w.testBit i with
   |true=>simp only[zC];rw[lZ (by have:=b.1;omega)];exact y (s++[x]) ⟨by have:=b.1;simp;omega,p⟩|false=>exact y s ⟨by have:=b.1;omega,p⟩)
  (fun m s g b=>by obtain⟨out,I,P,J⟩:=qo9 h (l:=s) (by have:=b.1;omega) u;obtain⟨r,H⟩:=Dv (l:=out) (by have:=b.1;omega) (fun t c=>by obtain⟨x,f,e⟩:=(J t c).2;have:=(h.p8.len x f).2;rw[e]at this;exact this) u;simp only[Q0,g,zD,tw,I,aN];refine⟨r,H,fun i t _ q _=>absurd q<|b.2 i ?_⟩;have:=(zG.1 q).1;omega) n 0 [] ag ag ⟨by simp,fun j E=>ag⟩
 rw[zV]at this;exact this
def cw:X Int->Nat
 |[z]=>z.toNat|_=>0
def J5(w:Nat):cw (bt w)=w:=by by_cases h:w=0;subst h;rfl;rw[tG h];simp[cw]
def eu(x:dI):Nat:=(bl<|cw x.Code).length
def qz8{x y:dI}{a b:Nat}(f:x.Code=bt a)(g:y.Code=bt b)(k:a<4096)(l:b<4096)(m:5000<=n):∃r,Vf n x y=some r/\(r=true->eu y<=eu x)/\(r=false->eu x<=eu y):=by
 have i:eu x=(bl a).length:=by rw[eu,f,J5]
 have j:eu y=(bl b).length:=by rw[eu,g,J5]
 rw[i,j];simp only[Vf,f,g,qvg k (show 100<=n by omega),qvg l (show 100<=n by omega),aN];by_cases c:((bl a).length:Int)>((bl b).length:Int);simp only[c,yC,zC,aN];exact⟨true,rfl,fun _=>ag,fun h=>by cases h⟩;simp only[c,yB,zD];by_cases e:((bl a).length:Int)=((bl b).length:Int);have:(((bl a).length:Int)==((bl b).length:Int))=true:=by simpa using e
 simp only[this,zC,aN];exact⟨_,rfl,fun _=>ag,fun _=>ag⟩;have:(((bl a).length:Int)==((bl b).length:Int))=false:=by simpa using e
 simp only[this,zD,aN];exact⟨false,rfl,fun h=>(by cases h),fun _=>ag⟩
structure CI(nm:Nat->A cB)(ws:X Nat)(l:X dI):Prop where
 perm:(l.map dI.Code).Perm (ws.map bt)
 p8:∀w∈ws,∃x∈l,x.Code=bt w/\nm w=some x.Name
 gR:l.Pairwise fun a b=>eu b<=eu a
variable{nm:Nat->A cB}{l:X dI}
def CI.len(h:CI nm ws l):l.length=ws.length:=by
 have:=h.perm.length_eq
 rwa [yA,yA]at this
def CI.iP(h:CI nm ws l):∀x∈l,∃w∈ws,x.Code=bt w:=fun x b=>by
 have:=h.perm.mem_iff.1<|W2 (f:=dI.Code) b;obtain⟨w,a,e⟩:=mem_map.1 this;exact⟨w,a,e.symm⟩
def Xw(h:CI nm ws l)(R:l.length<=300)(p:∀w∈ws,w<4096){w:Nat}(L:w<4096){s:cB}(K:nm w=some s)(I:5000<=n){q:Int}{rc:Int->X dI->A (X dI×Int)}{Q:X dI×Int->Prop}
  (C:∀u,CI nm (ws++[w]) u->∃r,rc (i64.wrap<|q+1) u=some r/\Q r):
  ∀(m z:Nat),z<m->z<=l.length->(∀y∈l.drop z,eu y<=eu ⟨s,bt w⟩)->∃r,Ns n q l rc s (bt w) m z=some r/\Q r:=by
 have fin:∀z,z<=l.length->(∀y∈l.drop z,eu y<=eu ⟨s,bt w⟩)->(∀y∈l.take z,eu ⟨s,bt w⟩<=eu y)->∃r,Vt q l rc s (bt w) z=some r/\Q r:=by
  intro z t i P;have t1:((l.drop 0).take ((z:Int)).toNat)=l.take z:=by rw[Xl,zZ]
  have t2:((l.drop<|0+((z:Int)).toNat).take (l.length-((z:Int)).toNat))=l.drop z:=by rw[zZ,Wy];exact zW ca
  have tl:(l.take z).length=z:=by simp;omega
  have dl:(l.drop z).length=l.length-z:=by simp
  simp only[Vt,t1,t2];rw[lZ ag,lZ (by rw[zZ];omega),lZ (by rw[tl];omega),lZ (by rw[tl];omega),lZ ag,lZ (by rw[zZ];omega),lZ (by rw[zU,tl,dl];simp;omega)];refine C _ ⟨?_,fun v f=>?_,?_⟩;have J:((l.take z++[dI.mk s<|bt w])++l.drop z).Perm (l++[dI.mk s<|bt w]):=by rw[zT];refine(perm_append_comm_assoc _ _ _).trans ?_;rw[Ww];exact qcZ
  refine(J.map dI.Code).trans ?_;rw[LY,LY];exact h.perm.append_right _;obtain f |f:=yD.1 f;obtain⟨x,c,o,F⟩:=h.p8 v f;refine⟨x,?_,o,F⟩;rw[<-Ww z l]at c;obtain c |c:=yD.1 c;exact vt _<|vt _ c;exact qa _ c;simp at f;subst f;exact⟨⟨s,bt v⟩,by simp,rfl,K⟩;have g:=h.gR;rw[<-Ww z l,qp]at g;rw[qp,qp];refine⟨⟨g.1,by simp,fun a e b j=>by simp at j;subst j;exact P a e⟩,g.2.1,fun a e b j=>?_⟩;obtain e |e:=yD.1 e;exact g.2.2 a e b j;simp at e;subst e;exact i b j
 intro m;induction m with
 |zero=>intro z hm;omega|succ m M=>
  intro z hm t i;unfold Ns;by_cases H:z=0;subst H;simp only[zV,Int.lt_irrefl,yB,zD,aN,show((0:Int)>0)=False by simp];have:=fin 0 ag i ca
  rwa [zV]at this
  have E:decide ((z:Int)>0)=true:=by simp;omega
  have o:i64.wrap ((z:Int)-1)=((z-1:Nat):Int):=MR ag ag;obtain⟨y,k,D⟩:=gO (l:=l) (show z-1<l.length by omega);obtain⟨v,f,G⟩:=h.iP y D;obtain⟨r,N,O,B⟩:=qz8 (x:=⟨s,bt w⟩) (y:=y) rfl G L (p v f) I;simp only[E,zC,o,cZ,k,aN,N];cases r with
  |true=>
   simp only[zC];refine M (z-1) ag ag fun x c=>?_;rw[b7 k,show z-1+1=z by omega]at c;obtain rfl |c:=zI.1 c
   exact O rfl;exact i x c
  |false=>
   simp only[zD];refine fin z t i fun x c=>?_;have g:=h.gR;rw[<-Ww (z-1) l,qp]at g;have:l.take z=l.take (z-1)++[y]:=by rw[<-lG k,show z-1+1=z by omega]
   rw[this]at c;obtain c |c:=yD.1 c;exact eb (B rfl) (g.2.2 x c y (by rw[b7 k];simp));simp at c;subst c;exact B rfl
def ZP(h:AF d):∃p,lS d p/\∀s,lS d s->oN d s p:=by
 obtain⟨l,i,D⟩:=h.ord;have r:∀s,lS d s->s∈l:=fun s ⟨x,B,e⟩=>by
  apply zg;intro z;have w:=Ts (a:=s::l) (b:=d.map bE.Name) (nodup_cons.2 ⟨z,i.nodup.1⟩) fun t j=>by obtain rfl |j:=zI.1 j;rw[<-e];exact W2 B;obtain⟨y,C,rfl⟩:=i.nodup.2 t j;exact W2 C
  simp at w;omega
 obtain⟨g,o⟩:∃g,d.filter (fun x=>decide (x.E6=[]))=[g]:=length_eq_one_iff.1 h.one;have q:g∈d:=(mem_filter.1 (show g∈d.filter (fun x=>decide (x.E6=[])) by rw[o];simp)).1;refine⟨g.Name,⟨g,q,rfl⟩,fun s c=>?_⟩;have key:∀{l:X cB},Ord d l->∀s∈l,oN d s g.Name:=by
  intro l i;induction i with
  |nil=>intro s c;cases c| @snoc l x g1 g2 E v m=>
   intro s c;obtain c |c:=yD.1 c;exact m s c;simp at c;subst c;cases f:x.E6 with
   |nil=>have:x∈d.filter (fun x=>decide (x.E6=[])):=mem_filter.2 ⟨g2,by simp[f]⟩;rw[o]at this;simp at this;rw[this];exact .refl|cons u F=>
    have k:u∈x.E6:=by rw[f];simp
    exact oN.trans (.step .refl g2 rfl k) (m u<|v u k)
 exact key i s (r s c)
structure HX(d:X bE)(l:X dI):Prop where
 ws:∃(nm:Nat->A cB)(c0 ws:X Nat),FI c0 ws/\SO ws/\CI nm ws l/\ws.length<=256/\0<ws.length
 w5:∀s,lS d s->∃x∈l,x.Name=s
 top:∃w0,(∃x∈l,x.Code=bt w0)/\∀x∈l,w0&&&cw x.Code=cw x.Code
def HX.len{d:X bE}{l:X dI}(h:HX d l):l.length<=256/\0<l.length:=by obtain⟨nm,b,ws,c,e,a,f,g⟩:=h.ws;have:=a.len;omega
def HX.iP{d:X bE}{l:X dI}(h:HX d l):∀x∈l,∃w,x.Code=bt w/\w<4096/\w≠0:=fun x f=>by
 obtain⟨nm,g,ws,a,i,c,j,k⟩:=h.ws;obtain⟨w,b,e⟩:=c.iP x f;exact⟨w,e,(a.ok w b).1,(a.ok w b).2.1⟩
def z5c(hd:d.length<=12)(C:5000<=n):∃l e,PV n d=some (l,e)/\(e=0->AF d/\HX d l):=by
 obtain⟨e,c1,c2⟩:=qzk hd C;simp only[PV,c1,aN];by_cases W:e=0;subst W;have h:=c2 rfl;obtain⟨all,n1,n2⟩:=Y7 (d:=d) ag C;have qF:all.length<=12:=by have:=n2.len;simp at this;omega
 have q:∀s,s∈all↔lS d s:=fun s=>by rw[n2.mem];simp[lS,gf]
 simp only[nh,zD,n1,aN];have:=jA (l:=all) ag (F:=fun m z (s:X Nat)=>Ch d n all m z<|s.map bt) (fun i s=>s.length=i/\(∀w∈s,w<4096)/\∀(j w:Nat)(t:cB),s[j]? = some w->all[j]? = some t->∀i:Nat,w.testBit i=true↔∃u,all[i]? = some u/\oN d u t) (Q:=fun r=>r.2=0->AF d/\HX d r.1)
  (fun m i x s g aH S hw U ih=>by
   obtain⟨P,J,D⟩:=U;obtain⟨w,w1,w2,w3⟩:=z9s h qF ((q x).1 (zX g)) (fun y hy=>(q y).1 hy) C;simp only[Ch,S,zC,cZ,g,aN,w1,hw,yA];rw[lZ ag];have:=ih (s++[w]) ⟨by simp;omega,fun v o=>by
    obtain o |o:=yD.1 o;exact J v o;simp at o;subst o;exact w2,fun j v t c f=>by
    by_cases e:j<s.length;rw[kl e]at c;exact D j v t c f;have:j=i:=by have:=(zG.1 c).1;simp at this;omega
    subst this;rw[kq ag,P,mr]at c;simp at c;subst c;rw[g]at f;cases f;exact w3⟩
   rw[LY]at this;exact this)
  (fun m c0 S U=>by
   obtain⟨P,J,D⟩:=U;have R:∀(j w:Nat),c0[j]? = some w->w.testBit j=true:=fun j w c=>by obtain⟨t,f,_⟩:=gO (l:=all) (show j<all.length by have:=(zG.1 c).1;omega);exact(D j w t c f j).2 ⟨t,f,.refl⟩
   have zk:c0.Nodup:=by rw[Nodup,qcM];intro a b O V BP e;obtain⟨s,Z,KH⟩:=gO (l:=all) (show a<all.length by omega);obtain⟨t,f,htm⟩:=gO (l:=all) (show b<all.length by omega);have ga:=hF O;have gb:=hF V;have M:=R a _ ga;have N:=R b _ gb;rw[e]at M;rw[<-e]at N;obtain⟨u,H,hu2⟩:=(D b _ t gb f a).1 M;obtain⟨v,o,vO⟩:=(D a _ s ga Z b).1 N;rw[Z]at H;cases H;rw[f]at o;cases o;have:=zbk h ((q s).1 KH) ((q t).1 htm) hu2 vO;subst this;obtain⟨p1,p2⟩:=zG.1 Z;obtain⟨q1,q2⟩:=zG.1 f;have:=(IS n2.p6.nodup).1 (p2.trans q2.symm);omega
   have I:∀a∈c0,a<4096/\a≠0:=fun a O=>⟨J a O,fun e=>by obtain⟨j,c,G⟩:=mem_iff_getElem.1 O;have:=R j a (by rw[hF c,G]);rw[e]at this;simp at this⟩;obtain⟨ws,f1,f2,f3⟩:=qzu (c0:=c0) ag zk I C;simp only[Ch,S,zD,ah,f1,aN,yA];by_cases D5:(ws.length:Int)>256;simp only[D5,yC,zC];exact⟨_,rfl,fun h=>by cases h⟩;simp only[D5,yB,zD];have aP:ws.length<=256:=by omega
   have:=jA (l:=ws) ag (F:=fun m z (s:X dI)=>Q5 d n all (c0.map bt) (ws.map bt) m z s) (fun i s=>CI (fun w=>Ud n d all (c0.map bt)<|bt w) (ws.take i) s) (Q:=fun r=>r.2=0->AF d/\HX d r.1)
    (fun m' i w s g aH T o7 B lO=>by
     have E:=zX g;have K:=f2.ok w E;obtain⟨t,t1,t2⟩:=qwe h qF (c0:=c0) P J K.1 C;have yJ:(ws.map bt)[i]? = some (bt w):=by rw[vz,g];rfl
     have KI:=B.len;rw[Wz]at KI;simp only[Q5,yA,T,zC,cZ,yJ,aN,t1];refine Xw (w:=w) (s:=t) B ag (fun v o=>(f2.ok v<|zn o).1) K.1 t1 C (fun l' vE=>?_) n s.length ag ag ca;rw[o7];rw[<-lG g]at vE;exact lO l' vE)
    (fun m' s T B=>by
     rw[zW<|zF _]at B;simp only[Q5,yA,T,zD,af];have jY:0<ws.length:=by
      have yO:0<d.length:=by have:=h.one;obtain _|⟨x,d⟩:=d;simp at this;simp
      obtain⟨x,g,fD⟩:=gO (l:=d) yO;have:=(q x.Name).2 ⟨x,fD,rfl⟩;have:=RV this;obtain⟨t,f⟩:=f2.pre;rw[f,zU];omega
     have QP:∃w0,(∃x∈s,x.Code=bt w0)/\∀x∈s,w0&&&cw x.Code=cw x.Code:=by
      obtain⟨s0,q1,q2⟩:=ZP h;obtain⟨j,c,e⟩:=mem_iff_getElem.1<|(q s0).2 q1;have L:j<c0.length:=by omega
      obtain⟨p,Y⟩:=f2.pre;have E:c0[j]∈ws:=by rw[Y];exact vt _ (kG L)
      obtain⟨x,g,ny,_⟩:=B.p8 _ E;have full:∀i,i<all.length->(c0[j]).testBit i=true:=fun i hi=>by obtain⟨u,H,oc⟩:=gO hi;exact(D j _ s0 (hF L) (by rw[hF c,e]) i).2 ⟨u,H,q2 u<|(q u).1 oc⟩
      refine⟨c0[j],⟨x,g,ny⟩,fun y hy=>?_⟩;obtain⟨w,hw,ew⟩:=B.iP y hy;rw[ew,J5];obtain⟨_,_,b,V,BP⟩:=f2.ok w hw;refine SY fun i=>?_;rw[Fq];rcases nz:w.testBit i with _|_
      simp;have yX:b.testBit i=true:=by have:=congrArg (fun z=>z.testBit i) BP;simp only[Fq,nz,Bool.true_and]at this;exact this
      obtain⟨k,hk,G⟩:=mem_iff_getElem.1 V;obtain⟨t,f,_⟩:=gO (l:=all) (show k<all.length by omega);obtain⟨u,H,_⟩:=(D k b t (by rw[hF hk,G]) f i).1 yX;rw[full i (zG.1 H).1];rfl
     refine⟨_,rfl,fun _=>⟨h,⟨_,c0,ws,f2,f3 aP,B,aP,jY⟩,fun t f=>?_,QP⟩⟩;obtain⟨j,c,e⟩:=mem_iff_getElem.1<|(q t).2 f;have L:j<c0.length:=by omega
     obtain⟨p,Y⟩:=f2.pre;have E:c0[j]∈ws:=by rw[Y];exact vt _ (kG L)
     obtain⟨x,g,_,G⟩:=B.p8 _ E;refine⟨x,g,?_⟩;obtain⟨s2,t1,t2⟩:=qwe h qF (c0:=c0) P J (f2.ok _ E).1 C;rw[t1]at G;rw[<-Option.some.inj G];exact t2 j t zk (hF L)<|by rw[hF c,e]) n 0 [] ag ag ⟨by simp,by simp,Pairwise.nil⟩
   rw[zV]at this;exact this) n 0 [] ag ag ⟨rfl,by simp,fun j w t c=>by simp at c⟩
 rw[zV]at this;obtain⟨r,M,N⟩:=this;exact⟨r.1,r.2,M,N⟩;have:(e != 0)=true:=by simpa using W
 simp only[this,zC];exact⟨[],e,rfl,fun h=>absurd h W⟩
variable{n:Nat}
def qxh{x:bE}(o:x.E3.length<=256)(s:cB)(k:5000<=n):∃r,Up n x s=some r/\(r.2=true->∃f∈x.E3,f.D9=s/\f.Value=r.1):=by
 have:=jA (l:=x.E3) ag (F:=fun m z (_:Unit)=>Cd x s m z) (fun _ _=>True) (Q:=fun r=>r.2=true->∃f∈x.E3,f.D9=s/\f.Value=r.1)
  (fun m i f _ b j a c _ g=>by simp only[Cd,a,zC,cZ,b,aN,M4,c];by_cases e:f.D9=s;simp only[e,yC,zC];exact⟨_,rfl,fun _=>⟨f,zX b,e,rfl⟩⟩;simp only[e,yB,zD];exact g () trivial)
  (fun m _ a _=>by simp only[Cd,a,zD,V'];exact⟨_,rfl,fun h=>by cases h⟩) n 0 () ag ag trivial
 rw[zV]at this;exact this
variable{l:X dI}
def QU(o:l.length<=256)(s:cB)(p:5000<=n):∃r,Nb n l s=some r/\((∃x∈l,x.Name=s)->∃j:Nat,r=(j:Int)/\j<l.length):=by
 have:=jA (l:=l) ag (F:=fun m z (_:Unit)=>Cq l s m z) (fun i _=>∀x∈l.take i,x.Name≠s) (Q:=fun r=>(∃x∈l,x.Name=s)->∃j:Nat,r=(j:Int)/\j<l.length)
  (fun m i x _ c g f h b k=>by
   simp only[Cq,f,zC,cZ,c,aN,M4,h];by_cases e:x.Name=s;simp only[e,yC,zC];exact⟨_,rfl,fun _=>⟨i,rfl,g⟩⟩;simp only[e,yB,zD];refine k () fun y a=>?_;rw[lG c]at a;obtain a |a:=yD.1 a
   exact b y a;simp at a;subst a;exact e)
  (fun m _ f b=>by rw[zW<|zF _]at b;simp only[Cq,f,zD,dt];exact⟨_,rfl,fun⟨x,c,e⟩=>absurd e<|b x c⟩) n 0 () ag ag ca
 rw[zV]at this;exact this
variable{d:X bE}
def z5k(P:d.length<=12)(D:∀x∈d,x.E3.length<=256)(R:5000<=n):∃f,Bt n d=some f/\eV f/\f.length<=3072/\∀s∈f,∃x∈d,∃y∈x.E3,y.D9=s:=by
 have:=jA (l:=d) ag (F:=fun m z s=>NM d n m s z) (fun i s=>eV s/\s.length<=256*i/\∀t∈s,∃x∈d,∃y∈x.E3,y.D9=t) (Q:=fun f=>eV f/\f.length<=3072/\∀s∈f,∃x∈d,∃y∈x.E3,y.D9=s)
  (fun m i x s h N c E b J=>by
   obtain⟨H,S,I⟩:=b;have u:=zX h;have G:=D x u;simp only[NM,c,zC];have:=jA (l:=x.E3) ag (F:=fun r z a=>Ce d n i (NM d n m) r a z) (fun k a=>eV a/\a.length<=s.length+k/\∀t∈a,∃x∈d,∃y∈x.E3,y.D9=t) (Q:=fun f=>eV f/\f.length<=3072/\∀s∈f,∃x∈d,∃y∈x.E3,y.D9=s)
    (fun r k y a v T e M q L=>by obtain⟨j,K,p⟩:=q;obtain⟨o,w,B,O,C⟩:=Lv (l:=a) ag j y.D9 (show a.length<n by omega);simp only[Ce,cZ,h,aN,e,zC,v,w,M];refine L o ⟨C,by omega,fun t g=>?_⟩;rcases(B t).1 g with rfl |g;exact⟨x,u,y,zX v,rfl⟩;exact p t g)
    (fun r a e q=>by obtain⟨j,K,p⟩:=q;simp only[Ce,cZ,h,aN,e,zD,IP,E];exact J a ⟨j,by omega,p⟩) n 0 s ag ag ⟨H,by omega,I⟩
   rw[zV]at this;exact this)
  (fun m s c b=>by simp only[NM,c,zD,aa];exact⟨s,rfl,b.1,by have:=b.2.1;omega,b.2.2⟩) n 0 [] ag ag ⟨Pairwise.nil,by simp,by simp⟩
 rw[zV]at this;exact this
def qy3(s:cB)(b:40<=n):∃r,Cb n s=some r:=by obtain⟨r,a,_⟩:=qwf s true b;exact⟨r,by simp[Cb,a,aN]⟩
def GE(d:X bE)(n:Nat)(x:bE):Prop:=∀f∈x.E3,Cb n f.D9=some true/\lS d f.Value
def qls(h:AF d)(I:5000<=n):∃e,Wp n d=some e/\(e=0->∀x∈d,GE d n x):=by
 have T:=h.len;obtain⟨all,N,C⟩:=Y7 (d:=d) ag I;have W:all.length<=12:=by have:=C.len;simp at this;omega
 have E:∀s,s∈all↔lS d s:=fun s=>by rw[C.mem];simp[lS,gf]
 have:=jA (l:=d) ag (F:=fun m z (_:Unit)=>FG d n all m z) (fun i _=>∀x∈d.take i,GE d n x) (Q:=fun e=>e=0->∀x∈d,GE d n x)
  (fun m i x _ w S t J c L=>by
   have K:=(h.sT x<|zX w).2;simp only[FG,t,zC,cZ,w,aN];have:=jA (l:=x.E3) ag (F:=fun q z (_:Unit)=>NU n all i (FG d n all m) x q z) (fun k _=>∀f∈x.E3.take k,Cb n f.D9=some true/\lS d f.Value) (Q:=fun e=>e=0->∀x∈d,GE d n x)
    (fun q k f _ o Y u P p M=>by
     obtain⟨r,D⟩:=qy3 f.D9 (n:=n) ag;simp only[NU,u,zC,cZ,o,aN,D];obtain _|_:=r;exact⟨1,rfl,fun h=>by cases h⟩;simp only[fX,zD];have V:((k:Int)<=(x.E3.length:Int)):=by omega
     have key:∀(b j:Nat),k-j<b->j<=k->∃e,Og n all x k (NU n all i (FG d n all m) x q) b j=some e/\(e=0->∀x∈d,GE d n x):=by
      intro b;induction b with
      |zero=>intro j hm;omega|succ b O=>
       intro j hm U;unfold Og;by_cases R:j<k;obtain⟨g,H,_⟩:=gO (l:=x.E3) (show j<x.E3.length by omega);have v:decide ((j:Int)<(k:Int))=true:=by simp;omega
       have G:i64.wrap ((j:Int)+1)=((j+1:Nat):Int):=MR ag ag;simp only[v,zC,cZ,H,o,aN,G];obtain _|_:=lX g.D9 f.D9;exact O (j+1) ag ag;exact⟨4,rfl,fun h=>by cases h⟩;have v:decide ((j:Int)<(k:Int))=false:=by simp;omega
       simp only[v,zD,im,cZ,o,aN,PM (l:=all) ag f.Value (n:=n) ag,P];by_cases B:f.Value∈all;simp only[B,yC,fX,zD];refine M () fun y a=>?_;rw[lG o]at a;obtain a |a:=yD.1 a
       exact p y a;simp at a;subst a;exact⟨D,(E _).1 B⟩;simp only[B,yB,lf,zC];exact⟨5,rfl,fun h=>by cases h⟩
     have:=key n 0 ag ag;rw[zV]at this;exact this)
    (fun q _ u p=>by
     rw[zW<|zF _]at p;simp only[NU,u,zD,io,J];refine L () fun y a=>?_;rw[lG w]at a;obtain a |a:=yD.1 a
     exact c y a;simp at a;subst a;exact p) n 0 () ag ag ca
   rw[zV]at this;exact this)
  (fun m _ t c=>by rw[zW<|zF _]at c;simp only[FG,t,zD,ip];exact⟨0,rfl,fun _=>c⟩) n 0 () ag ag ca
 rw[zV]at this;simp only[Wp,N,aN];exact this
def qvz(h:AF d)(s:cB)(g:5000<=n):∃r,Uq n d s=some r:=by
 have D:=h.len;have:=jA (l:=d) ag (F:=fun m z t=>Q4 d s n m t z) (fun i t=>eV t/\t.length<=i) (Q:=fun _=>True)
  (fun m i x t a y b u f k=>by
   obtain⟨j,E⟩:=f;obtain⟨r,w,_⟩:=qxh (h.sT x<|zX a).2 s g;simp only[Q4,b,zC,cZ,a,aN,w,Vr,u];cases r.2 with
   |true=>obtain⟨o,c,B,C,q⟩:=Lv (l:=t) ag j x.Name (show t.length<n by omega);simp only[zC,c,aN];exact k o ⟨q,by omega⟩
   |false=>exact k t ⟨j,by omega⟩)
  (fun m t b f=>by
   obtain⟨out,v,G,H⟩:=qo9 h (l:=t) (by have:=f.2;omega) g;simp only[Q4,b,zD,X',v,aN];by_cases e:(out.length:Int)=1;obtain⟨x,a,_⟩:=gO (l:=out) (show 0<out.length by omega);have p:aC out 0=some x:=by rw[<-a];exact cZ 0
   simp only[e,nh,zD,p,aN];exact⟨_,rfl,trivial⟩;have:((out.length:Int) != 1)=true:=by simpa using e
   simp only[this,zC];exact⟨_,rfl,trivial⟩) n 0 [] ag ag ⟨Pairwise.nil,by simp⟩
 rw[zV]at this;obtain⟨r,c,_⟩:=this;exact⟨r,c⟩
def br(h:HX d l){i j:Nat}(o:i<l.length)(p:j<l.length)(s:5000<=n):∃b,UT n l i j=some b:=by obtain⟨x,q,m⟩:=gO o;obtain⟨y,r,c⟩:=gO p;obtain⟨a,e,f,_⟩:=h.iP x m;obtain⟨b,g,k,_⟩:=h.iP y c;simp only[UT,cZ,q,r,aN,e,g,TK k f<|show 5<=n by omega];exact⟨_,rfl⟩
def qk8(h:AF d)(e:HX d l)(U:∀x∈d,∀f∈x.E3,lS d f.Value){t:Nat}(T:t<l.length)(s:cB)(o:5000<=n):∃w b,Ny n d l t s=some (bt w,b)/\w<4096:=by
 have hd:=h.len;have sN:=e.len;obtain⟨E,Y,g⟩:=gO (l:=l) sN.2;obtain⟨w0,H,I,_⟩:=e.iP E g;have:=jA (l:=d) ag (F:=fun m z (a:Rl×Nat)=>V0 d l t s n m a.1 (bt a.2) z) (fun _ a=>a.2<4096) (Q:=fun r=>∃w b,r=(bt w,b)/\w<4096)
  (fun m i x a D aH u V c C=>by have B:=zX D;obtain⟨r,r1,r2⟩:=qxh (h.sT x B).2 s o;simp only[V0,u,zC,cZ,D,aN,r1,V];rcases S:r.2 with _|_;simp only[lf,zC,aN];exact C a c;obtain⟨p,Z,p2⟩:=QU (l:=l) ag x.Name o;obtain⟨j,rfl,P⟩:=p2<|e.w5 _ ⟨x,B,rfl⟩;obtain⟨b,J⟩:=br e P T o;simp only[fX,zD,Z,aN,J];obtain _|_:=b;simp only[lf,zC];exact C a c;obtain⟨f,O,_,K⟩:=r2 S;obtain⟨q,q1,q2⟩:=QU (l:=l) ag r.1 o;obtain⟨k,rfl,R⟩:=q2<|e.w5 _<|K ▸ U x B f O;obtain⟨y,W,G⟩:=gO R;obtain⟨v,v1,v2,_⟩:=e.iP y G;simp only[fX,zD,q1,aN,cZ,W,v1,z7p c v2<|show 5<=n by omega];exact C (true,a.2&&&v)<|Gr SV c)
  (fun m a u c=>by simp only[V0,u,zD,ic];exact⟨_,rfl,a.2,a.1,rfl,c⟩) n 0 (false,w0) ag ag I
 rw[zV]at this;obtain⟨r,M,w,b,rfl,N⟩:=this;have L:aC l 0=some E:=by rw[<-Y];exact cZ 0
 exact⟨w,b,by simp only[Ny,L,aN,H];exact M,N⟩
structure MM(d:X bE)(n:Nat)(l:X dI)(f:X cB):Prop where
 x3:AF d
 iP:PV n d=some (l,0)
 l4:HX d l
 w8:Bt n d=some f
 p6:eV f
 len:f.length<=64
 val:∀x∈d,GE d n x
 mem:∀s∈f,∃x∈d,∃y∈x.E3,y.D9=s
def qra(D:d.length<=12)(c:5000<=n):∃e,UN n d=some e/\(e=0->∃l f,MM d n l f):=by
 obtain⟨l,e,C,L⟩:=z5c D c;simp only[UN,C,aN];by_cases p:e=0;subst p;obtain⟨h,q⟩:=L rfl;have W:=q.len;obtain⟨f,f1,f2,f3,f4⟩:=z5k D (fun x v=>(h.sT x v).2) c;simp only[nh,zD,f1,aN];by_cases I:(f.length:Int)>64;simp only[I,yC,zC];exact⟨7,rfl,fun h=>by cases h⟩;obtain⟨o,d1,d2⟩:=qls h c;simp only[I,yB,zD,d1,aN];by_cases a:o=0;subst a;have G:=d2 rfl;have J:MM d n l f:=⟨h,C,q,f1,f2,by omega,G,f4⟩;simp only[nh,zD];have:=jA (l:=f) ag (F:=fun m z (_:Unit)=>Cg d n (l,0) f m z) (fun _ _=>True) (Q:=fun e=>e=0->∃l f,MM d n l f)
  (fun m i s _ u V j M _ P=>by obtain⟨r,T⟩:=qvz h s c;simp only[Cg,j,zC,cZ,u,aN,T,M];obtain _|_:=r.2;exact⟨10,rfl,fun h=>by cases h⟩;exact P () trivial)
  (fun m _ j _=>by
   simp only[Cg,j,zD,ae];have:=jA (l:=l) ag (F:=fun m z (_:Unit)=>NN d n (l,0) f m z) (fun _ _=>True) (Q:=fun e=>e=0->∃l f,MM d n l f)
    (fun m t _ _ _ U k S _ R=>by
     simp only[NN,k,zC];have:=jA (l:=f) ag (F:=fun B z (_:Unit)=>Cf d n (l,0) f t (NN d n (l,0) f m) B z) (fun _ _=>True) (Q:=fun e=>e=0->∃l f,MM d n l f)
      (fun B i s _ u E g K _ H=>by
       obtain⟨w,b,O,_⟩:=qk8 h q (fun x v y N=>(G x v y N).2) U s c;simp only[Cf,g,zC,cZ,u,aN,O,K];obtain _|_:=b;exact H () trivial;simp only[zC,aN];cases (((bt w).length:Int)==0)with
       |true=>exact⟨11,rfl,fun h=>by cases h⟩|false=>exact H () trivial)
      (fun B _ g _=>by simp only[Cf,g,zD,ab,S];exact R () trivial) n 0 () ag ag trivial
     rw[zV]at this;exact this)
    (fun m _ k _=>by simp only[NN,k,zD,ad];exact⟨0,rfl,fun _=>⟨l,f,J⟩⟩) n 0 () ag ag trivial
   rw[zV]at this;exact this) n 0 () ag ag trivial
 rw[zV]at this;exact this;have:(o != 0)=true:=by simpa using a
 simp only[this,zC];exact⟨o,rfl,fun h=>absurd h a⟩;have:(e != 0)=true:=by simpa using p
 simp only[this,zC];exact⟨e,rfl,fun h=>absurd h p⟩
def z5m(e:HX d l){w:Nat}(p:5000<=n):∃r,Uf n l (bt w)=some r:=by
 have q:=e.len;have:=jA (l:=l) ag (F:=fun m z (_:Unit)=>Bz l n (bt w) m z) (fun _ _=>True) (Q:=fun _=>True)
  (fun m i x _ f o c j _ k=>by
   obtain⟨a,g,_⟩:=e.iP x<|zX f;simp only[Bz,c,zC,cZ,f,aN,g,qx5 (a:=a) (b:=w) (n:=n) ag,j];cases decide (a=w)with
   |true=>exact⟨_,rfl,trivial⟩|false=>exact k () trivial)
  (fun m _ c _=>by simp only[Bz,c,zD,tz];exact⟨_,rfl,trivial⟩) n 0 () ag ag trivial
 rw[zV]at this;obtain⟨r,h,_⟩:=this;exact⟨r,by simp only[Uf,zal (w:=w) (n:=n) ag,aN];exact h⟩
def z42(H:d.length<=12)(k:5000<=n):∃v e,Nc n d=some (v,e)/\(e=0->∃l f,MM d n l f/\v.length=l.length):=by
 obtain⟨e,C,D⟩:=qra H k;simp only[Nc,C,aN];by_cases j:e=0;subst j;obtain⟨l,f,h⟩:=D rfl;have R:=h.l4.len;have S:=h.len;simp only[nh,zD,h.iP,h.w8,aN];have:=jA (l:=l) ag (F:=fun m z s=>JF d n (l,0) f m z s) (fun i s=>s.length=i) (Q:=fun r=>r.2=0->∃l f,MM d n l f/\r.1.length=l.length)
  (fun m t _ s _ B c I q L=>by
   simp only[JF,c,zC];have:=jA (l:=f) ag (F:=fun p z a=>QA d n (l,0) f t s (JF d n (l,0) f m) p z a) (fun i a=>a.length<=i) (Q:=fun r=>r.2=0->∃l f,MM d n l f/\r.1.length=l.length)
    (fun p i x a o P g N M u=>by
     obtain⟨w,b,K,_⟩:=qk8 h.x3 h.l4 (fun x o y J=>(h.val x o y J).2) B x k;simp only[QA,g,zC,cZ,o,aN,K,Wa,N];cases b with
     |true=>obtain⟨r,O⟩:=z5m h.l4 (w:=w) k;simp only[zC,O,aN];rw[lZ ag];exact u _ (by simp;omega)
     |false=>exact u a ag)
    (fun p a g M=>by simp only[QA,g,zD,du,I];rw[lZ ag];exact L _ (by simp;omega)) n 0 [] ag ag ca
   rw[zV]at this;exact this)
  (fun m s c q=>by simp only[JF,c,zD,dv];exact⟨_,rfl,fun _=>⟨l,f,h,q⟩⟩) n 0 [] ag ag ca
 rw[zV]at this;obtain⟨r,E,G⟩:=this;exact⟨r.1,r.2,E,G⟩;have:(e != 0)=true:=by simpa using j
 simp only[this,zC];exact⟨[],e,rfl,fun h=>absurd h j⟩
def qyp(h:HX d l){t:Nat}(q:t<l.length)(j:5000<=n):∃r,ef n l t=some r:=by
 have C:=h.len;have:=jA (l:=l) ag (F:=fun m z s=>FF l t n m z s) (fun i s=>s.length<=i) (Q:=fun _=>True)
  (fun m k _ s _ p f u x c=>by
   obtain⟨b,e⟩:=br h p q j;simp only[FF,f,zC,e,aN,u];have go:∃r,UX l t n k s (FF l t n m) n true 0=some r/\True:=by
    have:=jA (l:=l) ag (F:=fun o z b=>UX l t n k s (FF l t n m) o b z) (fun _ _=>True) (Q:=fun _=>True)
     (fun o i _ b _ v g y _ a=>by
      obtain⟨e,g1⟩:=br h p v j;obtain⟨B,g2⟩:=br h v q j;simp only[UX,g,zC,y,g1,g2,aN];obtain _|_:=b;exact a false trivial;cases ((i:Int)==(t:Int))with
      |true=>exact a true trivial|false=>cases ((i:Int)==(k:Int))with|true=>exact a true trivial|false=>obtain _|_:=e;exact a true trivial;exact a _ trivial)
     (fun o b g _=>by
      simp only[UX,g,zD,dw,We,u];cases b with
      |true=>simp only[zC];rw[lZ ag];exact c _ (by simp;omega)|false=>exact c s ag) n 0 true ag ag trivial
    rw[zV]at this;exact this
   cases ((k:Int)==(t:Int))with|true=>simp only[zC,aN];exact c s ag|false=>simp only[zD,aN];obtain _|_:=b;simp only[lf,zC];exact c s ag;simp only[fX,zD];exact go)
  (fun m s f x=>by simp only[FF,f,zD,dx];exact⟨_,rfl,trivial⟩) n 0 [] ag ag ca
 rw[zV]at this;obtain⟨r,w,_⟩:=this;exact⟨r,w⟩
def qto(c:5000<=n){f:X cB}(h:MM d n l f)(o:UN n d=some 0):∃r,Vs n d=some (r,0)/\r.map jJ.Name=f:=by
 have y:=h.l4.len;have B:=h.len;have:=jA (l:=f) ag (F:=fun m z s=>Cu d n (l,0) f m z s) (fun i s=>s.map jJ.Name=f.take i) (Q:=fun r=>r.2=0/\r.1.map jJ.Name=f)
  (fun m i x s e w b p a t=>by
   obtain⟨r,u⟩:=qvz h.x3 x c;obtain⟨q,q1,_⟩:=QU (l:=l) ag r.1 c;have v:s.length=i:=by have:=congrArg List.length a;simp at this;omega
   simp only[Cu,b,zC,cZ,e,aN,u,q1,p];rw[lZ ag];exact t _ (by rw[LY,a,lG e];rfl))
  (fun m s b a=>by rw[zW<|zF _]at a;simp only[Cu,b,zD,fq];exact⟨_,rfl,rfl,a⟩) n 0 [] ag ag ca
 rw[zV]at this;obtain⟨r,g,j,k⟩:=this;refine⟨r.1,?_,k⟩;simp only[Vs,o,aN,nh,zD,h.iP,h.w8,g];rw[<-j]
structure v_(d:X bE)(n:Nat)(h:dK):Prop where
 ex:∃l f,MM d n l f/\h.Types.map gN.Code=l.map dI.Code/\h.E3.map jJ.Name=f
def qxy(o:d.length<=12)(b:5000<=n):∃h e,PZ n d=some (h,e)/\(e=0->v_ d n h)/\(e≠0->h=⟨[],[]⟩):=by
 obtain⟨v,e,v1,H⟩:=z42 o b;simp only[PZ,v1,aN];by_cases j:e=0;subst j;obtain⟨l,f,h,L⟩:=H rfl;have M:=h.l4.len;have B:UN n d=some 0:=by
  obtain⟨e,k,J⟩:=qra o b;by_cases g:e=0;rw[k,g];have:(e != 0)=true:=by simpa using g
  simp only[Nc,k,aN,this,zC,zA,zB]at v1;exact absurd v1.2 g
 obtain⟨K,g1,g2⟩:=qto b h B;simp only[nh,zD,h.iP,aN];have:=jA (l:=l) ag (F:=fun m z s=>Cs d n (v,0) (l,0) m z s) (fun i s=>s.map gN.Code=(l.take i).map dI.Code) (Q:=fun r=>r.2=0/\v_ d n r.1)
  (fun m i x s p q c C a E=>by
   obtain⟨r,G⟩:=qyp h.l4 q b;obtain⟨y,D,_⟩:=gO (l:=v) (show i<v.length by omega);have I:s.length=i:=by have:=congrArg List.length a;simp at this;omega
   simp only[Cs,c,zC,cZ,p,D,aN,G,C];rw[lZ ag];exact E _ (by rw[LY,a,lG p,LY];rfl))
  (fun m s c a=>by rw[zW<|zF _]at a;simp only[Cs,c,zD,fh,g1,aN];exact⟨_,rfl,rfl,⟨l,f,h,a,g2⟩⟩) n 0 [] ag ag ca
 rw[zV]at this;obtain⟨r,t,u,w⟩:=this;exact⟨r.1,r.2,t,fun _=>w,fun h=>absurd u h⟩;have:(e != 0)=true:=by simpa using j
 simp only[this,zC];exact⟨_,e,rfl,fun h=>absurd h j,fun _=>rfl⟩
end Go.Proofs
namespace Go.Proofs
open Go Go.Rx Go.Vx
structure oE(h:dK)(ws:X Nat):Prop where
 iP:h.Types.map gN.Code=ws.map bt
 ok:∀w∈ws,w≠0/\w<4611686018427387904
 iX:ws.Nodup
 cls:SO ws
 len:ws.length<=1000
 pos:0<ws.length
 fl:h.E3.length<=1000
 top:∀w∈ws,(ws[0]?).getD 0&&&w=w
variable{h:dK}{ws:X Nat}
def oE.tl(a:oE h ws):h.Types.length=ws.length:=by have:=congrArg List.length a.iP;simpa using this
def oE.at{h:dK}{ws:X Nat}(b:oE h ws){i:Nat}{w:Nat}(c:ws[i]? = some w):∃t,h.Types[i]? = some t/\t.Code=bt w:=by
 have a:(h.Types.map gN.Code)[i]? = some (bt w):=by rw[b.iP,vz,c];rfl
 rw[vz]at a;rcases e:h.Types[i]? with _|t;rw[e]at a;cases a;rw[e]at a;exact⟨t,rfl,Option.some.inj a⟩
variable{n:Nat}
def z4y(w:Nat)(i:5<=n):cy n [(w:Int)]=some (bt w):=by
 obtain⟨k,rfl⟩:=qj i;have d:i64.wrap ((1:Int)-1)=0:=wr (z:=0) ag ag;have e:aC [(w:Int)] 0=some (w:Int):=rfl;have b:xX [(w:Int)] 0 0=some []:=rfl;have c:xX [(w:Int)] 0 1=some [(w:Int)]:=rfl;have f:decide ((1:Int)>0)=true:=rfl;have g:decide ((0:Int)>0)=false:=rfl;show Co [(w:Int)] (k+5) 1=_;rw[Co,f,zC,d,e,aN,aN];by_cases a:w=0;have:((w:Int)==0)=true:=by simp[a]
 rw[this,zC,Co,g,zD,aN,zD,Vz,b,a];rfl;have:((w:Int)==0)=false:=by simp[a]
 rw[this,zD,Vz,c,tG a];rfl
variable{a:Nat}{b:Nat}
def z9f(f:a≠0/\a<4611686018427387904)(g:b≠0/\b<4611686018427387904)(i:5<=n):Tq n (bt a) (bt b)=some (bt<|a&&&b):=by obtain⟨k,rfl⟩:=qj i;have c:=Jk (a:=a) (b:=b) ag ag;have d:=z4y (a&&&b) (n:=k+5) ag;rw[tG f.1,tG g.1];have e:Tq (k+5) [(a:Int)] [(b:Int)]=Va [(a:Int)] [(b:Int)] (k+5) [OM .u64 (a:Int) (b:Int)]:=rfl;rw[e,c,Va,d];rfl
def qzb(j:a≠0/\a<4611686018427387904)(l:b≠0/\b<4611686018427387904)(m:5<=n):Na n (bt a) (bt b)=some (decide (a&&&b=a)):=by
 obtain⟨k,rfl⟩:=qj m;obtain⟨c,g,f⟩:=Xn (a:=a) (b:=b) ag ag;rw[tG j.1,tG l.1];have e:Na (k+5) [(a:Int)] [(b:Int)]=cond ((Be .u64 (a:Int) (b:Int)) != 0) (some false) (some true):=rfl;rw[e,g];by_cases d:c=0;have:=f.1 d;simp[d,this];have:¬ a&&&b=a:=fun q=>d<|f.2 q;have i:((c:Int) != 0)=true:=by simpa using d
 simp[this,i]
def Jc(d:a≠0/\a<4611686018427387904)(f:b≠0/\b<4611686018427387904)(g:5<=n):Uk n (bt a) (bt b)=some (decide (a=b)):=by
 rw[Uk,qzb d f g,qzb f d g];by_cases h:a&&&b=a;by_cases c:b&&&a=b;have:a=b:=by rw[<-h,KE,c]
 simp[h,c,this,aN];have:a≠b:=fun e=>c (by rw[<-e,Eu]);simp[h,c,this,aN];have:a≠b:=fun e=>h (by rw[<-e,Eu]);simp[h,this,aN]
def z8a{h:dK}{ws:X Nat}(d:oE h ws){c:Nat}(j:c∈ws){n:Nat}(p:5<=n):∀(m i:Nat),ws.length-i<m->i<=ws.length->(∀(k:Nat),k<i->ws[k]? ≠some c)->∃k:Nat,Oj h.Types (bt c) (Mz n) m (i:Int)=some (k:Int)/\ws[k]? = some c
 |0,i,hm,_,_=>by omega
 |m+1,i,hm,A,o=>by
  have x:=d.tl;have y:=d.len;obtain⟨q,r⟩:=mem_iff_getElem?.1 j;have C:=(zG.1 r).1;have g:i<ws.length:=by obtain f |f:=XL q i;exact absurd r<|o q f;omega
  obtain⟨w,l,s⟩:=gO g;obtain⟨t,z,v⟩:=d.at l;have f:=Jc (d.ok w s) (d.ok c j) p;simp only[Oj,x,nL g,zC,cZ,z,aN,Mz,v,f];by_cases e:w=c;simp only[e,yC,zC];exact⟨i,rfl,by rw[l,e]⟩;simp only[e,yB,zD,pS g<|show ws.length<=9223372036854775807 by omega];exact z8a d j p m (i+1) ag ag (fun k B=>by by_cases u:k=i;subst u;rw[l];intro q;exact e<|Option.some.inj q;exact o k ag)
def zae(c:oE h ws){i j:Nat}(l:ws[i]? = some a)(m:ws[j]? = some b)(z:2000<=n):
  (a&&&b=0->FC n h (i:Int) (j:Int)=some (0,false))/\(a&&&b≠0->∃k:Nat,FC n h (i:Int) (j:Int)=some ((k:Int),true)/\ws[k]? = some (a&&&b)):=by
 obtain⟨t,x,w⟩:=c.at l;obtain⟨A,p,o⟩:=c.at m;have e:=zX l;have f:=zX m;have s:=z9f (c.ok a e) (c.ok b f) (n:=n) ag;simp only[FC,cZ,x,p,aN,w,o,s];constructor;intro d;rw[d];rfl;intro d;have u:=c.cls a e b f d;obtain⟨k,g,v⟩:=z8a c u (n:=n) ag n 0 (by have:=c.len;omega) ag (fun k y=>ag);rw[zV]at g;have q:(((bt<|a&&&b).length:Int)==0)=false:=by rw[tG d];rfl
 have r:decide ((k:Int)<0)=false:=by simp
 simp only[q,zD,iu,g,aN,r];exact⟨k,rfl,v⟩
def iY(ws:X Nat)(t:Int):Nat:=(ws[t.toNat]?).getD 0
def As{t:Int}(h:0<=t/\t<(ws.length:Int)):ws[t.toNat]? = some (iY ws t):=by
 have:t.toNat<ws.length:=by omega
 rw[iY,hF this];rfl
def Xq(i:oE h ws){s t:Int}(l:0<=s/\s<(ws.length:Int))(m:0<=t/\t<(ws.length:Int))(j:2000<=n):
  ∃r,FC n h s t=some r/\(r.2=false->iY ws s&&&iY ws t=0)/\(r.2=true->(0<=r.1/\r.1<(ws.length:Int))/\iY ws r.1=iY ws s&&&iY ws t):=by obtain⟨c,d⟩:=zae i (As l) (As m) j;rw[show((s.toNat:Nat):Int)=s by omega,show((t.toNat:Nat):Int)=t by omega]at c d;by_cases e:iY ws s&&&iY ws t=0;exact⟨_,c e,fun _=>e,fun q=>by cases q⟩;obtain⟨k,g,f⟩:=d e;refine⟨_,g,(fun q=>by cases q),fun _=>⟨?_,?_⟩⟩;have:=(zG.1 f).1;constructor;exact KR _;show(k:Int)<_;omega;show iY ws (k:Int)=_;rw[iY,zZ,f];rfl
def E5(c:X aY)(i:Nat):aY:=(c[i]?).getD ⟨-1,0,[]⟩
def kK(mt:Int->Int->A Int):Nat->X (Int×Int)->X aY->(Nat->Nat)->(Nat->Nat)->Rl×X aY×(Nat->Nat)×(Nat->Nat)
 |0,_,c,e,d=>(true,c,e,d)|_+1,[],c,e,d=>(true,c,e,d)
 |k+1,p::W,c,e,d=>
  if e p.1.toNat=e p.2.toNat then kK mt k W c e d else
  match mt (E5 c<|e p.1.toNat).kind (E5 c<|e p.2.toNat).kind with
  |none=>(false,c,e,d)|some t=>kK mt k ((W0 (E5 c<|e p.1.toNat).D8 (E5 c<|e p.2.toNat).D8).reverse++W) (uU c (e p.1.toNat) (e p.2.toNat) t<|vW (E5 c<|e p.1.toNat).D8 (E5 c<|e p.2.toNat).D8) (gM e (e p.1.toNat)<|e p.2.toNat) (EY e d<|e p.2.toNat)
def DT(n:Nat)(h:dK)(s t:Int):A Int:=match FC n h s t with
 |some (r,true)=>some r|_=>none
def Sj(N:Nat)(p:Int×Int):Prop:=(0<=p.1/\p.1<(N:Int))/\(0<=p.2/\p.2<(N:Int))
def lK.E5{N D:Nat}{c e:Int}{cells:X aY}{f d:Nat->Nat}(h:lK N D c e cells f d){i:Nat}(j:i<N):cells[i]? = some (E5 cells i):=by have g:=h.len;rw[Go.Proofs.E5,hF ag];rfl
variable{N:Nat}{E:Int}
def Cz{a b:X aL}(c:vZ N E a)(d:vZ N E b):∀p∈W0 a b,Sj N p:=fun p e=>by
 obtain⟨x,f,y,g,_,rfl⟩:=z2m e;exact⟨(c.ok x f).2.2,(d.ok y g).2.2⟩
structure fE(N D:Nat)(E TB:Int)(W:X (Int×Int))(c:X aY)(aA d:Nat->Nat):Prop where
 hp:lK N D E TB c aA d
 wi:∀p∈W,Sj N p
variable{D:Nat}{F:Int}{W:X (Int×Int)}{p:Int×Int}{c:X aY}{G:Nat->Nat}{d:Nat->Nat}
def fE.skip(h:fE N D E F (p::W) c G d):fE N D E F W c G d:=⟨h.hp,fun q e=>h.wi q<|kj _ e⟩
structure Fb(N:Nat)(E F:Int)(c:X aY)(G:Nat->Nat)(m n:Nat):Prop where
 hm:m<N
 hn:n<N
 em:G m=m
 en:G n=n
 cm:c[m]? = some (E5 c m)
 cn:c[n]? = some (E5 c n)
 am:vZ N E (E5 c m).D8
 an:vZ N E (E5 c n).D8
 km:0<=(E5 c m).kind/\(E5 c m).kind<F
 kn:0<=(E5 c n).kind/\(E5 c n).kind<F
def fE.two(h:fE N D E F (p::W) c G d):Fb N E F c G (G p.1.toNat) (G p.2.toNat):=by obtain⟨j,k⟩:=h.wi p ca;have g:=h.hp.b6.lt p.1.toNat ag;have i:=h.hp.b6.lt p.2.toNat ag;have e:=h.hp.E5 g;have f:=h.hp.E5 i;exact⟨g,i,h.hp.b6.idem _ ag,h.hp.b6.idem _ ag,e,f,h.hp.ar _ _ e,h.hp.ar _ _ f,h.hp.kd _ _ e,h.hp.kd _ _ f⟩
def fE.next(h:fE N D E F (p::W) c G d)(f:G p.1.toNat≠G p.2.toNat){t:Int}(i:0<=t/\t<F):
  fE N (D+1) E F ((W0 (E5 c<|G p.1.toNat).D8 (E5 c<|G p.2.toNat).D8).reverse++W) (uU c (G p.1.toNat) (G p.2.toNat) t<|vW (E5 c<|G p.1.toNat).D8 (E5 c<|G p.2.toNat).D8) (gM G (G p.1.toNat)<|G p.2.toNat) (EY G d<|G p.2.toNat):=by have T:=h.two;have g:=Bn _ _ T.am.up T.an.up;refine⟨h.hp.aW T.hm T.hn T.em T.en f (g.ok T.am T.an) i,fun q e=>?_⟩;obtain e |e:=yD.1 e;exact Cz T.am T.an q<|mem_reverse.1 e;exact h.wi q (kj _ e)
def Fb.M5{N:Nat}{E F:Int}{c:X aY}{G:Nat->Nat}{m n:Nat}(T:Fb N E F c G m n)(e:m≠n)(t:Int)(W:X (Int×Int)):((W0 (E5 c m).D8 (E5 c n).D8).reverse++W).length+M5 (uU c m n t<|vW (E5 c m).D8 (E5 c n).D8)=W.length+M5 c:=by have:=zbi T.cm T.cn e t<|Bn _ _ T.am.up T.an.up;simp only[zU,length_reverse];omega
def mf(W:X (Int×Int)):X rZ:=(W.map pk).reverse
def z79(p:Int×Int)(W:X (Int×Int)):mf (p::W)=mf W++[pk p]:=by simp[mf]
def zbc(W:X (Int×Int))(l:X (Int×Int)):mf W++l.map pk=mf (l.reverse++W):=by simp[mf]
def z3q(W:X (Int×Int)):(mf W).length=W.length:=by simp[mf]
def z8u{e:Type}(l:X e)(x:e)(f:l.length<=1000000000):decide (((l++[x]).length:Int)>0)=true/\i64.wrap (((l++[x]).length:Int)-1)=(l.length:Int)/\aC (l++[x]) (l.length:Int)=some x/\(l++[x]).take l.length=l:=by refine⟨by simp,?_,?_,by simp⟩;simp only[zU,zO,zS];exact MR ag ag;rw[cZ];simp
def Rz{h:dK}{ws:X Nat}(i:oE h ws){s t:Int}(k:0<=s/\s<(ws.length:Int))(l:0<=t/\t<(ws.length:Int)){n:Nat}(j:2000<=n):
  (DT n h s t=none/\(∃r,FC n h s t=some r/\r.2=false)/\iY ws s&&&iY ws t=0)\/(∃r,DT n h s t=some r/\FC n h s t=some (r,true)/\(0<=r/\r<(ws.length:Int))/\iY ws r=iY ws s&&&iY ws t):=by obtain⟨⟨r,b⟩,e,g,f⟩:=Xq i k l j;obtain _|_:=b;exact .inl ⟨by rw[DT,e],⟨_,e,rfl⟩,g rfl⟩;exact .inr ⟨r,by rw[DT,e],e,(f rfl).1,(f rfl).2⟩
def Sp{mt:Int->Int->A Int}{N:Nat}{E F:Int}(j:∀s t r,(0<=s/\s<F)->(0<=t/\t<F)->mt s t=some r->0<=r/\r<F):∀(k:Nat)(W:X (Int×Int))(c:X aY)(G d:Nat->Nat)(D:Nat),fE N D E F W c G d->W.length+M5 c<k->
  ∃f,f+M5 (kK mt k W c G d).2.1<=D+W.length+M5 c/\lK N f E F (kK mt k W c G d).2.1 (kK mt k W c G d).2.2.1 (kK mt k W c G d).2.2.2
 |0,W,c,G,d,D,h,i=>by omega
 |k+1,[],c,G,d,D,h,i=>⟨D,by simp[kK],h.hp⟩|k+1,p::W,c,G,d,D,h,i=>by simp only[zO]at i ⊢;unfold kK;by_cases e:G p.1.toNat=G p.2.toNat;rw[kh e];obtain⟨f,l,g⟩:=Sp j k W c G d D h.skip ag;exact⟨f,by omega,g⟩;rw[iy e];have T:=h.two;rcases hm:mt (E5 c<|G p.1.toNat).kind (E5 c<|G p.2.toNat).kind with _|t;exact⟨D,by simp,h.hp⟩;have m:=j _ _ _ T.km T.kn hm;have o:=T.M5 e t W;obtain⟨f,l,g⟩:=Sp j k _ _ _ _ (D+1) (h.next e m) ag;exact⟨f,by simp only;omega,g⟩
structure tH(h:dK)(f:cb):Prop where
 sm:dC f 12
 ne:0<f.D6.length
 p9:∀x∈f.D6,(0<=x.R/\x.R<(h.Types.length:Int))/\vZ f.D6.length (h.E3.length:Int) x.E2
 can:bX f 0=f
 M6:m7 f
def z7w{h:dK}{z:Int}{rc:Int->A Int}{x:aU}{Q:Prop}(s:x.E2.length<=12)(o:∃r,rc (i64.wrap<|z+1)=some r/\(r=0->Q)):∀(m k:Nat),x.E2.length-k<m->k<=x.E2.length->∃r,Np h z rc x m (k:Int)=some r/\(r=0->Q/\∀a∈x.E2.drop k,a.D9<(h.E3.length:Int))
 |0,k,hm,_=>by omega
 |m+1,k,hm,t=>by unfold Np;by_cases e:k<x.E2.length;obtain⟨a,f,_⟩:=gO e;simp only[nL e,zC,cZ,f,aN,pS e<|show x.E2.length<=9223372036854775807 by omega];by_cases l:a.D9>=(h.E3.length:Int);simp only[l,yC,zC];exact⟨_,rfl,fun q=>by cases q⟩;simp only[l,yB,zD];obtain⟨r,j,i⟩:=z7w s o m (k+1) ag ag;refine⟨r,j,fun q=>⟨(i q).1,fun b g=>?_⟩⟩;rw[b7 f]at g;obtain rfl |g:=zI.1 g;omega;exact(i q).2 b g;simp only[oD e,zD,U',bZ e];obtain⟨r,j,i⟩:=o;exact⟨r,j,fun q=>⟨i q,fun a f=>by cases f⟩⟩
def z7v{h:dK}{f:cb}{n:Nat}{v:cb×Int}{Q:Prop}(k:dC f 12)(C:12<n)(o:∃r,Nr f n v=some r/\(r=0->Q)):∀(m i:Nat),f.D6.length-i<m->i<=f.D6.length->∃r,UQ h f n v m (i:Int)=some r/\(r=0->Q/\∀x∈f.D6.drop i,x.R<(h.Types.length:Int)/\∀a∈x.E2,a.D9<(h.E3.length:Int))
 |0,i,hm,_=>by omega
 |m+1,i,hm,H=>by have I:=k.nodes;unfold UQ;by_cases e:i<f.D6.length;obtain⟨x,t,A⟩:=gO e;have w:=k.D8 x A;simp only[nL e,zC,cZ,t,aN];by_cases s:x.R>=(h.Types.length:Int);simp only[s,yC,zC];exact⟨_,rfl,fun q=>by cases q⟩;simp only[s,yB,zD];have u:=z7v (h:=h) k C o m (i+1) ag ag;rw[<-pS e (show f.D6.length<=9223372036854775807 by omega)]at u;obtain⟨r,j,l⟩:=z7w (h:=h) (z:=(i:Int)) (x:=x) w u n 0 ag ag;rw[zV]at j;refine⟨r,j,fun q=>?_⟩;obtain⟨⟨q1,q2⟩,q3⟩:=l q;refine⟨q1,fun y g=>?_⟩;rw[b7 t]at g;obtain rfl |g:=zI.1 g;exact⟨by omega,by rw[Xl]at q3;exact q3⟩;exact q2 y g;simp only[oD e,zD,bZ e];obtain⟨r,j,l⟩:=o;exact⟨r,j,fun q=>⟨l q,fun a B=>by cases B⟩⟩
def Ip{f:cb}(i:dC f 12)(h:dK){n:Nat}(z:3000000<=n):∃r,Mu n h f=some r/\(r=0->tH h f):=by
 have l:=qus i ag (n:=n) (show 2*12+4<=n by omega);by_cases e:IU f=0;rw[kh e]at l;obtain⟨g1,g2,j⟩:=qri.1 e;have m:fU f 0:=⟨by omega,by omega⟩;have t:=i.canon j (r:=0) m;have q2:=qwz (f:=f) (g:=⟨(bX f 0).D6⟩) (n:=n) (i.up ag) (t.up ag) z;have y:∃r,Nr f n (bX f 0,0)=some r/\(r=0->f=bX f 0):=by simp only[Nr,q2,aN];cases v:(Iu f ⟨(bX f 0).D6⟩==0);exact⟨_,rfl,fun q=>by cases q⟩;exact⟨_,rfl,fun _=>qvf.1<|by simpa using v⟩
 obtain⟨r,s,A⟩:=z7v (h:=h) i ag y n 0 (by have:=i.nodes;omega) ag;rw[zV]at s;refine⟨r,by simp only[Mu,l,aN];exact s,fun q=>?_⟩;obtain⟨q1,q3⟩:=A q;rw[Xl]at q3;have w:=Bd j m;refine⟨i,by omega,fun x k=>⟨⟨(j x k).ty,(q3 x k).1⟩,?_,fun a o=>?_⟩,q1.symm,j⟩;exact w.up x<|q1 ▸ k;have:=(j x k).O9 a o;exact⟨this.1,(q3 x k).2 a o,this.2⟩;rw[iy e]at l;have u:(IU f != 0)=true:=by simp[e]
 exact⟨IU f,by simp only[Mu,l,aN,u,zC],fun q=>absurd q e⟩
def z85{h:dK}{l:X cb}(u:l.length<=1000000){n:Nat}(o:3000000<=n):∀(m i:Nat),l.length-i<m->i<=l.length->∃b,Nn h l n m (i:Int)=some b/\(b=true->∀f∈l.drop i,tH h f)
 |0,i,hm,_=>by omega
 |m+1,i,hm,y=>by
  unfold Nn;by_cases e:i<l.length;obtain⟨f,j,_⟩:=gO e;obtain⟨b,s,t⟩:=z5y f (n:=n) ag;simp only[nL e,zC,cZ,j,aN,s,pS e<|show l.length<=9223372036854775807 by omega];obtain _|_:=b;simp only[lf,zC,aN];exact⟨false,rfl,fun q=>by cases q⟩;obtain⟨r,w,x⟩:=Ip (t rfl) h o;simp only[fX,zD,w,aN];cases v:(r != 0)with
  |true=>simp only[zC];exact⟨false,rfl,fun q=>by cases q⟩|false=>simp only[zD];obtain⟨b,g1,g2⟩:=z85 u o m (i+1) ag ag;refine⟨b,g1,fun q g k=>?_⟩;rw[b7 j]at k;obtain rfl |k:=zI.1 k;exact x (by simpa using v);exact g2 q g k
  simp only[oD e,zD,J',bZ e];exact⟨true,rfl,fun _ f j=>by cases j⟩
def za3(h:dK){l:X cb}(i:l.length<=1000000){n:Nat}(j:3000000<=n):∃b,qjg n h l=some b/\(b=true->∀f∈l,tH h f):=by obtain⟨b,e,g⟩:=z85 (h:=h) i j n 0 ag ag;rw[zV]at e;exact⟨b,e,g⟩
def oA(k:Nat)(a:aL):aL:=⟨a.D9,a.To+(k:Int)⟩
def jX(k:Nat)(x:aU):aY:=⟨-1,x.R,x.E2.map<|oA k⟩
def u?{a:aL}{k:Nat}(h:0<=a.To/\a.To<1000)(e:k<=1000):i64.wrap (a.To+(k:Int))=a.To+(k:Int):=wr ag ag
structure Flat(N:Nat)(E F:Int)(c:aY):Prop where
 fw:c.forward= -1
 ar:vZ N E c.D8
 kd:0<=c.kind/\c.kind<F
 sm:c.D8.length<=12
def lK.init{N:Nat}{E F:Int}{cells:X aY}(hl:cells.length=N)(h:∀c∈cells,Flat N E F c):lK N 0 E F cells id (fun _=>0) where
 b6:=⟨fun i hi=>hi,fun i hi=>rfl,fun i hi=>rfl,fun i hi=>zF _⟩
 l4:=⟨fun i c hc _=>(h c<|zX hc).fw,fun i c hc cA=>absurd rfl cA⟩
 len:=hl
 ar i c hc:=(h c<|zX hc).ar
 kd i c hc:=(h c<|zX hc).kd
def S_:∀{cells:X aY},(∀c∈cells,c.D8.length<=12)->M5 cells<=12*cells.length
 |[],_=>by simp[M5]
 |c::l,h=>by have f:=S_ (cells:=l) fun x e=>h x<|kj _ e;have:=h c ca;simp only[M5,zQ,Ga,zO]at f ⊢;omega
def T4{k:Nat}{l:X aL}(h:gZ l):gZ (l.map<|oA k):=by unfold gZ at*;rw[XN];exact h.imp fun{a b} q=>q
variable{h:dK}
def tH.flat{f:cb}(g:tH h f){N k:Nat}(q:k+f.D6.length<=N){c:aY}(o:c∈f.D6.map (jX k)):Flat N (h.E3.length:Int) (h.Types.length:Int) c:=by obtain⟨x,i,rfl⟩:=mem_map.1 o;obtain⟨j,e⟩:=g.p9 x i;refine⟨rfl,⟨T4 e.up,fun a l=>?_⟩,j,by simp[jX];exact g.sm.D8 x i⟩;obtain⟨b,m,rfl⟩:=mem_map.1 l;have:=e.ok b m;exact⟨this.1,this.2.1,by show 0<=b.To+(k:Int);omega,by show b.To+(k:Int)<_;omega⟩
def tH.to{f:cb}(e:tH h f):∀x∈f.D6,∀a∈x.E2,0<=a.To/\a.To<1000:=fun x i a g=>by
 have:=(e.p9 x i).2.ok a g;have:=e.sm.nodes;omega
variable{n:Nat}
def gm{G:Nat->Nat}{m i j:Nat}(h:G i=G j):gM G m n i=gM G m n j:=by unfold gM;rw[h]
def Tr{mt:Int->Int->A Int}{i j:Nat}:∀(k:Nat)(W:X (Int×Int))(c:X aY)(G d:Nat->Nat),G i=G j->(kK mt k W c G d).2.2.1 i=(kK mt k W c G d).2.2.1 j
 |0,W,c,G,d,h=>h|k+1,[],c,G,d,h=>h
 |k+1,p::W,c,G,d,h=>by unfold kK;by_cases e:G p.1.toNat=G p.2.toNat;rw[kh e];exact Tr k W c G d h;rw[iy e];obtain _|t:=mt (E5 c<|G p.1.toNat).kind (E5 c<|G p.2.toNat).kind;exact h;exact Tr k _ _ _ _ (gm h)
def Oo{mt:Int->Int->A Int}{N:Nat}{E F:Int}(j:∀s t r,(0<=s/\s<F)->(0<=t/\t<F)->mt s t=some r->0<=r/\r<F):∀(k:Nat)(W:X (Int×Int))(c:X aY)(G d:Nat->Nat)(D:Nat),fE N D E F W c G d->W.length+M5 c<k->(kK mt k W c G d).1=true->∀p∈W,(kK mt k W c G d).2.2.1 p.1.toNat=(kK mt k W c G d).2.2.1 p.2.toNat
 |0,W,c,G,d,D,h,i,_=>by omega
 |k+1,[],c,G,d,D,h,i,_=>fun p l=>by cases l
 |k+1,p::W,c,G,d,D,h,i,f=>by simp only[zO]at i;have T:=h.two;unfold kK at f ⊢;by_cases e:G p.1.toNat=G p.2.toNat;rw[kh e]at f ⊢;intro q g;obtain rfl |g:=zI.1 g;exact Tr k W c G d e;exact Oo j k W c G d D h.skip ag f q g;rw[iy e]at f ⊢;rcases hm:mt (E5 c<|G p.1.toNat).kind (E5 c<|G p.2.toNat).kind with _|t;rw[hm]at f;cases f;rw[hm]at f;have m:=j _ _ _ T.km T.kn hm;have o:=T.M5 e t W;intro q g;obtain rfl |g:=zI.1 g;refine Tr k _ _ _ _ ?_;simp[gM,e];exact Oo j k _ _ _ _ (D+1) (h.next e m) ag f q (qa _ g)
def qu2{ws:X Nat}(i:oE h ws)(j:2000<=n):∀s t r,(0<=s/\s<(ws.length:Int))->(0<=t/\t<(ws.length:Int))->DT n h s t=some r->0<=r/\r<(ws.length:Int):=fun s t r k l e=>by
 obtain⟨f,_⟩|⟨q,f,_,g,_⟩:=Rz i k l j;rw[f]at e;cases e;rw[f]at e;have:=Option.some.inj e;subst this;exact g
def Iz{a b:Nat}(k:b&&&a=a)(o:a<4096)(q:b<4096)(f:(bl b).length<=(bl a).length):a=b:=by
 have j:∀i,a.testBit i=true->b.testBit i=true:=fun i h=>by have:=congrArg (fun z=>z.testBit i) k;simp only[Fq,h,Bool.and_true]at this;exact this
 have l:(List.range 64).filter (fun i=>a.testBit i)=((List.range 64).filter fun i=>b.testBit i).filter fun i=>a.testBit i:=by
  rw[filter_filter];refine filter_congr fun i _=>?_;rcases h:a.testBit i with _|_
  simp;simp[j i h]
 simp only[bl,yA]at f;rw[l]at f;have m:((List.range 64).filter fun i=>b.testBit i).filter (fun i=>a.testBit i)=(List.range 64).filter fun i=>b.testBit i:=(filter_sublist).eq_of_length_le f;refine SY fun i=>?_;by_cases r:i<64;cases g:b.testBit i with
 |false=>rcases e:a.testBit i with _|_;rfl;rw[j i e]at g;cases g
 |true=>have:i∈(List.range 64).filter fun i=>b.testBit i:=mem_filter.2 ⟨mem_range.2 r,g⟩;rw[<-m]at this;exact(mem_filter.1 this).2
 rw[qcU (Xj o<|Nat.pow_le_pow_right (n:=2) ag<|show 12<=i by omega),qcU<|Xj q<|Nat.pow_le_pow_right (n:=2) ag<|show 12<=i by omega]
def v_.HQ{d:X bE}(T:v_ d n h):∃ws,oE h ws:=by
 obtain⟨l,f,o,P,Q⟩:=T.ex;obtain⟨nm,Z,ws,g1,g2,C,g4,g5⟩:=o.l4.ws;have u:=o.l4.iP;have M:(l.map fun x=>cw x.Code).map bt=l.map dI.Code:=by rw[dT];apply Wu;intro x U;obtain⟨w,i,_⟩:=u x U;simp[i,J5]
 have e:(l.map fun x=>cw x.Code).Perm ws:=by
  have:=C.perm.map cw;rw[dT,dT]at this;have O:ws.map (cw ∘ bt)=ws:=by have:(cw ∘ bt)=id:=funext fun w=>J5 w;rw[this,Fh]
  rw[O]at this;exact this
 refine⟨l.map fun x=>cw x.Code,⟨by rw[P,M],fun w i=>?_,e.nodup_iff.2 g1.iX,fun a R b S L=>?_,?_,?_,?_,?_⟩⟩;have:=g1.ok w<|e.mem_iff.1 i;exact⟨this.2.1,by omega⟩;exact e.mem_iff.2<|g2 a (e.mem_iff.1 R) b (e.mem_iff.1 S) L;rw[e.length_eq];omega;rw[e.length_eq];omega;have:=congrArg List.length Q;rw[yA]at this;have:=o.len;omega;intro w i;obtain⟨y,H,rfl⟩:=mem_map.1 i;obtain⟨q,⟨r,k,B⟩,v⟩:=o.l4.top;have A:=C.gR;rcases g:l with _|⟨z,l'⟩;rw[g]at k;cases k;simp only[zQ,Ih,gK];have j:z∈l:=by rw[g];simp
 obtain⟨J,t,Y,_⟩:=u z j;obtain⟨m,K,V,_⟩:=u r k;have s:q=m:=by rw[<-J5 q,<-J5 m,<-B,<-K]
 have sO:eu r<=eu z:=by rw[g]at k A;obtain rfl |h:=zI.1 k;exact zF _;exact(pairwise_cons.1 A).1 r h
 have I:=v z j;rw[t,J5]at I;have:J=q:=Iz I Y (by rw[s];exact V) (by
  have c1:eu r=(bl q).length:=by rw[eu,B,J5]
  have c2:eu z=(bl J).length:=by rw[eu,t,J5]
  omega)
 rw[t,J5,this];exact v y (by rw[g]at H;rw[g];exact H)
def wd(t:gN):Nat:=cw t.Code
def iz:X Nat->Rl
 |[]=>true|x::l=>!(l.any fun y=>Nat.beq x y)&&iz l
def okB(h:dK):Rl :=
 (h.Types.all fun t=>match t.Code with |[z]=>decide (0<z)&&decide (z<4611686018427387904)|_=>false) &&
 iz (h.Types.map wd)&&((h.Types.map wd).all fun a=>(h.Types.map wd).all fun b=>Nat.beq (a&&&b) 0||(h.Types.map wd).any fun c=>Nat.beq (a&&&b) c) &&
 ble h.Types.length 1000&&ble 1 h.Types.length&&ble h.E3.length 1000&&((h.Types.map wd).all fun w=>Nat.beq ((((h.Types.map wd)[0]?).getD 0)&&&w) w)
def z8l:∀{l:X Nat},iz l=true->l.Nodup
 |[],_=>Ab|x::l,h=>by simp only[iz,fO,vP,any_eq_false]at h;refine nodup_cons.2 ⟨fun e=>?_,z8l h.2⟩;have:=h.1 x e;simp at this
def Dk(i:okB h=true):∃ws,oE h ws:=by
 simp only[okB,fO,rj,wm]at i;obtain⟨⟨⟨⟨⟨⟨o,q⟩,r⟩,s⟩,u⟩,v⟩,x⟩:=i;have k:∀t∈h.Types,t.Code=bt (wd t)/\wd t≠0/\wd t<4611686018427387904:=fun t g=>by
  have:=o t g;unfold wd;rcases f:t.Code with _|⟨z,l⟩;rw[f]at this;simp at this;cases l with
  |cons y l=>rw[f]at this;simp at this|nil=>rw[f]at this;simp at this;have e:cw [z]=z.toNat:=rfl;rw[e];exact⟨by rw[tG ag];congr 1;omega,by omega,by omega⟩
 refine⟨h.Types.map wd,⟨?_,fun w j=>?_,z8l q,fun a A b i m=>?_,by rw[yA];exact s,by rw[yA];exact u,v,fun w j=>by have:=x w j;rw[IK]at this;exact this⟩⟩;rw[dT];exact Wu fun t g=>(k t g).1;obtain⟨t,g,rfl⟩:=mem_map.1 j;exact(k t g).2;have:=r a A b i;rw[nw,IK]at this;obtain h |h:=this
 exact absurd h m;obtain⟨c,f,e⟩:=any_eq_true.1 h;rw[IK]at e;rw[e];exact f
def preB(m:Nat):a8 (Vm<|m+200) (fun d=>a8 (PZ (m+200) d) fun r=>some<|okB r.1)=some true:=bD
def Db(h:200<=n):∃g ws,Oc n=some g/\oE g ws:=by have:=preB<|n-200;rw[show n-200+200=n by omega]at this;rcases e:Vm n with _|d;rw[e]at this;cases this;rw[e,aN]at this;rcases f:PZ n d with _|r;rw[f]at this;cases this;rw[f,aN]at this;obtain⟨ws,i⟩:=Dk<|Option.some.inj this;exact⟨⟨r.1.Types,r.1.E3⟩,ws,by simp only[Oc,e,f,aN],i⟩
def za7(d:X bE)(q:5000<=n):∃g ws,fe n d=some g/\oE g ws:=by
 obtain⟨g,ws,k,l⟩:=Db (n:=n) ag;unfold fe;by_cases i:(d.length:Int)<=12;obtain⟨h,e,m,o,s⟩:=qxy (d:=d) ag q;simp only[i,yC,zC,m,aN];by_cases j:e=0;subst j;obtain⟨f,r⟩:=(o rfl).HQ;exact⟨⟨h.Types,h.E3⟩,f,rfl,r⟩;have:(e==0)=false:=by simpa using j
 simp only[this,zD];exact⟨g,ws,k,l⟩;simp only[i,yB,zD];exact⟨g,ws,k,l⟩
def nY(G:Nat->Nat)(a:aL):aL:=⟨a.D9,rI G a.To⟩
def CK(G:Nat->Nat)(c:aY):aU:=⟨c.kind,c.D8.map<|nY G⟩
def cG(cells:X aY)(G:Nat->Nat):cb:=⟨cells.map<|CK G⟩
def YK{G:Nat->Nat}{l:X aL}(h:gZ l):gZ (l.map<|nY G):=by unfold gZ at*;rw[XN];exact h.imp fun{a b} q=>q
def lK.M6{N D:Nat}{E F:Int}{cells:X aY}{G d:Nat->Nat}(h:lK N D E F cells G d):m7 (cG cells G):=fun x m=>by
 obtain⟨c,l,rfl⟩:=mem_map.1 m;obtain⟨i,g⟩:=mc l;have f:=h.ar i c g;refine⟨(h.kd i c g).1,(YK f.up).aR,fun a hm=>?_⟩;obtain⟨b,k,rfl⟩:=mem_map.1 hm;have e:=f.ok b k;have j:=h.rI (v:=b.To) e.2.2;simp only[cG,yA,h.len];exact⟨e.1,j⟩
def z1j{f:cb}{o t:X Int}{u:Int}(g:∀a∈(nd f u).E2,a.To∈o):gQ f (o++t) u=gQ f o u:=by simp only[gQ,aU.mk.injEq,di];refine Wu fun a e=>?_;simp only[kL,ns,g a<|tI.1 e,It]
def lK.nd{N D:Nat}{E F:Int}{cells:X aY}{G d:Nat->Nat}(h:lK N D E F cells G d){v:Int}(g:0<=v/\v<(N:Int)):Go.Proofs.nd (cG cells G) v=CK G (pG cells v)/\R5 (cG cells G) v=(pG cells v).D8.map (nY G):=by
 have f:=h.nM g;have e:Go.Proofs.nd (cG cells G) v=CK G (pG cells v):=by simp only[Go.Proofs.nd,cG,vz,f,zM,gK]
 exact⟨e,by rw[R5,e];exact uy<|YK (h.ar _ _ f).up⟩
def z3h(a b:X aU)(k:Int)(l:X aL):Kh (a++[⟨k,[]⟩]++b) a.length l=a++[⟨k,l⟩]++b:=by simp[Kh]
def z44{N D B:Nat}{E F:Int}{cells:X aY}{G d:Nat->Nat}(h:lK N D E F cells G d)(J:M5 cells<=B):∀(k:Nat)(s:X Int×X aU)(v:Int),Sn N B s->(0<=v/\v<(N:Int))->N-s.1.length<k->rI G v ∉ s.1->
  eg cells G k s v=((s.1.length:Int),O5 (cG cells G) k s.1<|rI G v,s.2++((O5 (cG cells G) k s.1<|rI G v).drop s.1.length).map (gQ (cG cells G)<|O5 (cG cells G) k s.1<|rI G v))
 |0,s,v,z,K,Y,_=>by omega
 |k+1,s,v,z,K,Y,hm=>by
  have V:=h.M6;have y:=h.rI K;have O:=z.snoc y hm (pG cells<|rI G v).kind;have T:=h.nM y;have wb:=h.ar _ _ T;obtain⟨Z,M⟩:=h.nd y;have A:(cG cells G).D6.length=N:=by simp[cG,h.len]
  have tQ:=O.le;simp only[zU,zO,zS]at tQ;have key:∀(l:X aL),(∀a∈l,0<=a.To/\a.To<(N:Int))->∀(e:X Int×X aU)(i:X aL),Sn N B e->s.1.length+1<=e.1.length->
    ∃t,(l.map<|nY G).foldl (jH<|O5 (cG cells G) k) e.1=e.1++t/\(∀a∈l,rI G a.To∈e.1++t)/\(∀u∈t,∀a∈(Go.Proofs.nd (cG cells G) u).E2,a.To∈e.1++t)/\
     uR (eg cells G k) l e i=(i++l.map (fun a=>kL (e.1++t)<|nY G a),e.1++t,e.2++t.map (gQ (cG cells G)<|e.1++t)):=by
   intro l;induction l with
   |nil=>intro _ e i m I;exact⟨[],by simp,by simp,by simp,by simp[uR]⟩|cons a l L=>
    intro x e i m I;have q:=x a ca;have P:=h.rI q;rw[uR];by_cases j:rI G a.To∈e.1;have o:eg cells G k e a.To=((e.1.idxOf (rI G a.To):Int),e):=by obtain⟨k',rfl⟩:=qj (show 1<=k by have:=m.le;omega);rw[eg,kh j]
    rw[o];obtain⟨t,q1,q2,q3,q4⟩:=L (fun b f=>x b<|kj _ f) e (i++[⟨a.D9,(e.1.idxOf (rI G a.To):Int)⟩]) m I;refine⟨t,?_,?_,q3,?_⟩;rw[zQ,oe];have:jH (O5 (cG cells G) k) e.1 (nY G a)=e.1:=by rw[jH,kh<|by exact j]
    rw[this,q1];intro b f;obtain rfl |f:=zI.1 f;exact vt _ j;exact q2 b f;rw[q4];have:kL (e.1++t) (nY G a)=⟨a.D9,(e.1.idxOf (rI G a.To):Int)⟩:=by simp only[kL,nY,ns,j,It]
    rw[zQ,this];simp;have o:=z44 h J k e a.To m q ag j;have we:Seen (cG cells G) e.1:=⟨m.nd,fun u g=>by have:=m.W4 u g;rw[fU,A];exact this⟩;obtain⟨d1,⟨t1,d2⟩,d3,d4⟩:=Lk V k e.1 (rI G a.To) we (by rw[fU,A];exact P) j (by rw[A];omega);obtain⟨v1,r,v3⟩:=R_ h J k e a.To m q ag;rw[o]at v1 r ⊢;simp only at v1 r ⊢;rw[d2]at v1 r ⊢;have H:∀u∈rI G a.To::t1,∀b∈(Go.Proofs.nd (cG cells G) u).E2,b.To∈e.1++rI G a.To::t1:=fun u g b f=>by by_cases C:u∈e.1;exfalso;have:=d1.nd;rw[d2,f_]at this;exact this.2.2 u C u g rfl;have:=d3 u (by rw[d2];exact qa _ g) C b f;rw[d2]at this;exact this
    rw[wj]at v1 ⊢;obtain⟨t,q1,q2,q3,q4⟩:=L (fun b f=>x b<|kj _ f) _ (i++[⟨a.D9,(e.1.length:Int)⟩]) v1 (by simp only[zU,zO]at r ⊢;omega);simp only at q1 q2 q3 q4;refine⟨rI G a.To::t1++t,?_,?_,?_,?_⟩;rw[zQ,oe];have:jH (O5 (cG cells G) k) e.1 (nY G a)=e.1++rI G a.To::t1:=by rw[jH,iy<|by exact j];exact d2
    rw[this,q1];simp;intro b f;obtain rfl |f:=zI.1 f;simp;have:=q2 b f;simpa using this;intro u g b f;obtain g |g:=yD.1 g;have:=H u g b f;rw[zT]at*;simp only[yD]at this ⊢;obtain h |h:=this;exact .inl h;exact .inr<|.inl h;have:=q3 u g b f;simpa using this;rw[q4];have w:e.1++(rI G a.To::t1++t)=e.1++rI G a.To::t1++t:=by simp
    have R:kL (e.1++rI G a.To::t1++t) (nY G a)=⟨a.D9,(e.1.length:Int)⟩:=by simp only[kL,nY,ns,yD,j,zI,true_or,or_true,It,LX,idxOf_cons_self];simp
    have S:(rI G a.To::t1).map (gQ (cG cells G) (e.1++rI G a.To::t1++t))=(rI G a.To::t1).map (gQ (cG cells G) (e.1++rI G a.To::t1)):=Wu fun u g=>z1j<|H u g;rw[w];refine Prod.ext ?_<|Prod.ext rfl ?_;show i++[_]++_=i++List.map _ (a::l);rw[zQ,R,zT];rfl;show e.2++_++_=e.2++List.map _ (rI G a.To::t1++t);rw[LY,S,zT]
  obtain⟨t,q1,q2,q3,q4⟩:=key _ (fun a q=>(wb.ok a q).2.2) (s.1++[rI G v],s.2++[⟨(pG cells<|rI G v).kind,[]⟩]) [] O ca;simp only at q1 q2 q3 q4;have U:O5 (cG cells G) (k+1) s.1 (rI G v)=s.1++rI G v::t:=by rw[O5,M,q1];simp
  rw[U,wj,eg,iy hm];simp only[q4];have Q:=z.len;rw[<-Q,z3h,eY];have o:s.1++rI G v::t=s.1++[rI G v]++t:=by simp
  rw[o];have w:gQ (cG cells G) (s.1++[rI G v]++t) (rI G v)=⟨(pG cells<|rI G v).kind,(pG cells<|rI G v).D8.map fun a=>kL (s.1++[rI G v]++t)<|nY G a⟩:=by rw[gQ,Z,M,dT];rfl
  rw[zQ,w];simp
def qv1:∀{a b:X aL},gZ a->gZ b->(∀x,x∈a↔x∈b)->a=b
 |[],[],_,_,_=>rfl|[],y::b,_,_,h=>by have:=(h y).2 ca;cases this
 |x::a,[],_,_,h=>by have:=(h x).1 ca;cases this
 |x::a,y::b,k,l,h=>by
  have j:=pairwise_cons.1 k;have g:=pairwise_cons.1 l;have e:x=y:=by rcases zI.1 ((h x).1 ca)with e |e;exact e;rcases zI.1 ((h y).2 ca)with i |i;exact i.symm;have:=j.1 y i;have:=g.1 x e;omega
  subst e;rw[qv1 j.2 g.2 fun z=>⟨fun f=>by
   rcases zI.1 ((h z).1 (kj _ f))with e |e;subst e;have:=j.1 z f;omega;exact e,fun f=>by
   rcases zI.1 ((h z).2 (kj _ f))with e |e;subst e;have:=g.1 z f;omega;exact e⟩]
structure QG(ws:X Nat)(L:X aU)(r:Nat->Nat)(g:cb):Prop where
 len:g.D6.length=L.length
 rt:∀i,i<L.length->r i<L.length/\r (r i)=r i
 kd:∀i x,g.D6[i]? = some x->r i=i->(0<=x.R/\x.R<(ws.length:Int))/\∀k,(iY ws x.R).testBit k=true↔∀j c,L[j]? = some c->r j=i->(iY ws c.R).testBit k=true
 ds:∀i x,g.D6[i]? = some x->r i=i->m8 x.E2
 nZ:∀j c a,L[j]? = some c->a∈c.E2->∃x b,g.D6[r j]? = some x/\b∈x.E2/\b.D9=a.D9/\b.To=(r a.To.toNat:Int)
 snd:∀i x b,g.D6[i]? = some x->r i=i->b∈x.E2->∃j c a,L[j]? = some c/\r j=i/\a∈c.E2/\b.D9=a.D9/\b.To=(r a.To.toNat:Int)
def z9r{ws:X Nat}(l:ws.Nodup){s t:Int}(m:0<=s/\s<(ws.length:Int))(o:0<=t/\t<(ws.length:Int))(h:iY ws s=iY ws t):s=t:=by have k:=As m;have e:=As o;rw[<-h]at e;obtain⟨f,i⟩:=zG.1 k;obtain⟨g,j⟩:=zG.1 e;have:=(IS (h₀:=f) (h₁:=g) l).1 (by rw[i,j]);omega
def InR(N:Nat)(r:Nat->Nat)(v:Int):Prop:=∃i:Nat,v=(i:Int)/\i<N/\r i=i
def Lnk(N:Nat)(r:Nat->Nat)(W:X (Int×Int))(x y:Nat):Prop:=∀q:Nat->Nat,(∀i j,i<N->j<N->r i=r j->q i=q j)->(∀p∈W,q p.1.toNat=q p.2.toNat)->q x=q y
structure HW(N:Nat)(ws:X Nat)(L:X aU):Prop where
 len:L.length=N
 ar:∀(j:Nat)(c:aU)(a:aL),L[j]? = some c->a∈c.E2->0<=a.To/\a.To<(N:Int)
structure TC(ws:X Nat)(N:Nat)(L:X aU)(W:X (Int×Int))(cells:X aY)(G:Nat->Nat):Prop where
 nZ:∀(j:Nat)(c:aU)(a:aL),L[j]? = some c->a∈c.E2->∃b∈(E5 cells (G j)).D8,b.D9=a.D9/\Lnk N G W b.To.toNat a.To.toNat
 snd:∀(i:Nat)(b:aL),i<N->G i=i->b∈(E5 cells i).D8->∃(j:Nat)(c:aU),L[j]? = some c/\G j=i/\b∈c.E2
 kd:∀(i:Nat),i<N->G i=i->∀k:Nat,(iY ws (E5 cells i).kind).testBit k=true↔∀(j:Nat)(c:aU),L[j]? = some c->G j=i->(iY ws c.R).testBit k=true
def u7(L:X aU)(q:Nat->Nat):Prop:=∀(i j:Nat)(c e:aU)(a b:aL),L[i]? = some c->L[j]? = some e->q i=q j->a∈c.E2->b∈e.E2->a.D9=b.D9->q a.To.toNat=q b.To.toNat
def Ju(ws:X Nat)(L:X aU)(q:Nat->Nat):Prop:=∃i,i<L.length/\∀k:Nat,∃(j:Nat)(c:aU),L[j]? = some c/\q j=q i/\(iY ws c.R).testBit k=false
structure OD(N:Nat)(W:X (Int×Int))(G q:Nat->Nat):Prop where
 r:∀i j,i<N->j<N->G i=G j->q i=q j
 w:∀p∈W,q p.1.toNat=q p.2.toNat
variable{c:X aY}{m:Nat}{n:Nat}
def Mm(hm:m<c.length)(g:n<c.length)(j:m≠n)(t:Int)(o:X aL)(i:Nat):
  E5 (uU c m n t o) i=if i=n then⟨(m:Int),0,[]⟩else if i=m then⟨-1,t,o⟩else E5 c i:=by simp only[E5,uU,mi,lu];by_cases e:i=n;subst e;simp[g];rw[iy fun q=>e q.symm,iy e];by_cases f:i=m;subst f;simp[hm];rw[iy fun q=>f q.symm,iy f]
variable{ws:X Nat}{N:Nat}{L:X aU}{W:X (Int×Int)}{p:Int×Int}{G:Nat->Nat}
def TC.skip(h:TC ws N L (p::W) c G)(hp:Sj N p)(e:G p.1.toNat=G p.2.toNat):TC ws N L W c G where
 nZ j x a hj ha:=by obtain⟨b,h1,h2,h3⟩:=h.nZ j x a hj ha;refine⟨b,h1,h2,fun q q1 q2=>h3 q q1 fun z hz=>?_⟩;obtain rfl |hz:=zI.1 hz;exact q1 _ _ (by have:=hp.1;omega) (by have:=hp.2;omega) e;exact q2 z hz
 snd:=h.snd
 kd:=h.kd
structure Mg(N:Nat)(p:Int×Int)(c:X aY)(G:Nat->Nat)(m n:Nat):Prop where
 len:c.length=N
 hm:m<N
 hn:n<N
 em:G m=m
 en:G n=n
 ne:m≠n
 lt:∀i,i<N->G i<N
 idem:∀i,i<N->G (G i)=G i
 pi:Sj N p
 pp:(G p.1.toNat=m/\G p.2.toNat=n)\/(G p.1.toNat=n/\G p.2.toNat=m)
 dm:m8 (E5 c m).D8
def fE.mg{D:Nat}{E F:Int}{d:Nat->Nat}(e:fE N D E F (p::W) c G d)(f:G p.1.toNat≠G p.2.toNat):Mg N p c G (G p.1.toNat) (G p.2.toNat):=
 have T:=e.two
 ⟨e.hp.len,T.hm,T.hn,T.em,T.en,f,e.hp.b6.lt,e.hp.b6.idem,e.wi p ca,.inl ⟨rfl,rfl⟩,T.am.up.aR⟩
def TC.aW(Z:HW N ws L){W':X (Int×Int)}(T:Mg N p c G m n)(h:TC ws N L (p::W) c G){t:Int}{o:X aL}
  (ht:iY ws t=iY ws (E5 c m).kind&&&iY ws (E5 c n).kind) (M:o.Perm ((E5 c m).D8++mT (E5 c m).D8 (E5 c n).D8)) (w1:∀z∈W0 (E5 c m).D8 (E5 c n).D8,z∈W') (w2:∀z∈W,z∈W'):
  TC ws N L W' (uU c m n t o) (gM G m n):=by
 obtain⟨jN,oJ⟩:=T.pi;have w:=T.ne;have aP:=T.len;have R:m<c.length:=by have:=T.hm;omega
 have V:n<c.length:=by have:=T.hn;omega
 have H:=Mm R V w t o;have ida:∀j,j<N->G (G j)=G j:=T.idem;have jlt:∀{j:Nat}{x:aU},L[j]? = some x->j<N:=fun l=>by have:=(zG.1 l).1;rw[Z.len]at this;exact this
 have mono:∀i j,G i=G j->gM G m n i=gM G m n j:=fun i j e=>gm e;have v:∀{x y:Nat},Lnk N G (p::W) x y->Lnk N (gM G m n) W' x y:=fun{x y} hl q q1 q2=>by
  refine hl q (fun i j I l e=>q1 i j I l<|mono i j e) fun z C=>?_;obtain rfl |C:=zI.1 C
  refine q1 _ _ ag ag ?_;unfold gM;obtain⟨A,P⟩|⟨A,P⟩:=T.pp;rw[A,P,iy w,kh rfl];rw[A,P,iy w,kh rfl];exact q2 z (w2 z C)
 refine⟨fun j x a l ha=>?_,fun i b I s u=>?_,fun i I s k=>?_⟩;obtain⟨b,B,Q,K⟩:=h.nZ j x a l ha;by_cases J:G j=n;have A:gM G m n j=m:=by unfold gM;rw[kh J]
 rw[A,H,iy w,kh rfl];rw[J]at B;show ∃b∈o,_;by_cases U:AR (E5 c m).D8 b.D9=true;obtain⟨z,C,Y⟩:=PK.1 U;refine⟨z,M.mem_iff.2<|vt _ C,by omega,fun q q1 q2=>?_⟩;have S:(z.To,b.To)∈W0 (E5 c m).D8 (E5 c n).D8:=mem_filterMap.2 ⟨b,B,by rw[z00 T.dm C Y];rfl⟩;have:=q2 (z.To,b.To)<|w1 _ S;rw[this];exact v K q q1 q2;refine⟨b,M.mem_iff.2 (qa _<|mem_filter.2 ⟨B,by simpa using U⟩),Q,v K⟩;have A:gM G m n j=G j:=by unfold gM;rw[iy J]
 rw[A,H,iy J];by_cases em:G j=m;rw[kh em];rw[em]at B;exact⟨b,M.mem_iff.2<|vt _ B,Q,v K⟩;rw[iy em];exact⟨b,B,Q,v K⟩;by_cases r:i=n;subst r
 rw[H,kh rfl]at u;cases u;rw[H,iy r]at u;by_cases f:i=m;subst f;rw[kh rfl]at u;rcases yD.1 (M.mem_iff.1 u)with u |u;obtain⟨j,x,q1,q2,q3⟩:=h.snd _ b T.hm T.em u;exact⟨j,x,q1,by unfold gM;rw[q2,iy w],q3⟩;obtain⟨j,x,q1,q2,q3⟩:=h.snd _ b T.hn T.en (mem_filter.1 u).1;exact⟨j,x,q1,by unfold gM;rw[q2,kh rfl],q3⟩;rw[iy f]at u;have O:G i=i:=by unfold gM at s;split at s;exact absurd s.symm f;exact s
 obtain⟨j,x,q1,q2,q3⟩:=h.snd i b I O u;exact⟨j,x,q1,by unfold gM;rw[q2,iy r],q3⟩;by_cases r:i=n;subst r
 unfold gM at s;rw[T.en,kh rfl]at s;exact absurd s w;rw[H,iy r];by_cases f:i=m;subst f;rw[kh rfl];show(iY ws t).testBit k=true↔_;rw[ht,Fq,fO,h.kd _ T.hm T.em,h.kd _ T.hn T.en];constructor;rintro⟨g1,g2⟩ j x l Fc;unfold gM at Fc;by_cases e:G j=n;exact g2 j x l e;rw[iy e]at Fc;exact g1 j x l Fc;intro g;exact⟨fun j x l e=>g j x l (by unfold gM;rw[e,iy w]),fun j x l e=>g j x l (by unfold gM;rw[kh e])⟩;rw[iy f];have O:G i=i:=by unfold gM at s;split at s;exact absurd s.symm f;exact s
 rw[h.kd i I O];constructor;intro g j x l e;refine g j x l ?_;unfold gM at e;split at e;exact absurd e.symm f;exact e;intro g j x l e;exact g j x l (by unfold gM;rw[e,iy r])
def OD.aW(M:HW N ws L){W':X (Int×Int)}{q:Nat->Nat}(T:Mg N p c G m n)(h:TC ws N L (p::W) c G)(P:u7 L q)(f:OD N (p::W) G q)(w:∀z∈W',z∈W0 (E5 c m).D8 (E5 c n).D8\/z∈W):
  q m=q n/\OD N W' (gM G m n) q:=by
 obtain⟨jN,oJ⟩:=T.pi;have H:=f.w p ca;have t:q m=q n:=by obtain⟨u,v⟩|⟨u,v⟩:=T.pp;have g:q m=q p.1.toNat:=f.r _ _ T.hm ag (by rw[T.em,u]);have k:q n=q p.2.toNat:=f.r _ _ T.hn ag (by rw[T.en,v]);rw[g,k,H];have g:q n=q p.1.toNat:=f.r _ _ T.hn ag (by rw[T.en,u]);have k:q m=q p.2.toNat:=f.r _ _ T.hm ag (by rw[T.em,v]);rw[g,k,H]
 refine⟨t,fun i j B C e=>?_,fun z o=>?_⟩
 ·have V:q (G i)=q i:=f.r _ _ (T.lt i B) B<|T.idem i B;have Y:q (G j)=q j:=f.r _ _ (T.lt j C) C<|T.idem j C;rw[<-V,<-Y];unfold gM at e;split at e
  ·next A=>
   split at e
   ·next l=>rw[A,l]
   ·next l=>rw[A,<-t,e]
  ·next A=>
   split at e
   ·next l=>rw[l,<-t,e]
   ·next l=>rw[e]
 obtain o |o:=w z o;obtain⟨x,Q,y,R,O,rfl⟩:=z2m o;obtain⟨j,Z,q1,q2,q3⟩:=h.snd _ x T.hm T.em Q;obtain⟨I,yc,K,S,U⟩:=h.snd _ y T.hn T.en R;have J:=(zG.1 q1).1;have s:=(zG.1 K).1;rw[M.len]at J s;refine P j I Z yc x y q1 K ?_ q3 U O;have g:q j=q m:=f.r _ _ J T.hm (by rw[T.em,q2]);have k:q I=q n:=f.r _ _ s T.hn (by rw[T.en,S]);rw[g,k,t];exact f.w z (kj _ o)
structure yh(ws:X Nat)(mt:Int->Int->A Int):Prop where
 no:∀s t,(0<=s/\s<(ws.length:Int))->(0<=t/\t<(ws.length:Int))->mt s t=none->iY ws s&&&iY ws t=0
 yes:∀s t r,(0<=s/\s<(ws.length:Int))->(0<=t/\t<(ws.length:Int))->mt s t=some r->(0<=r/\r<(ws.length:Int))/\iY ws r=iY ws s&&&iY ws t
def OW{ws:X Nat}{mt:Int->Int->A Int}(y:yh ws mt){N:Nat}{E:Int}{L:X aU}(o:HW N ws L):∀(k:Nat)(W:X (Int×Int))(c:X aY)(G d:Nat->Nat)(D:Nat),fE N D E ws.length W c G d->TC ws N L W c G->W.length+M5 c<k->
  ((kK mt k W c G d).1=true->TC ws N L [] (kK mt k W c G d).2.1 (kK mt k W c G d).2.2.1)/\
  ∀q,u7 L q->OD N W G q->((kK mt k W c G d).1=true->OD N [] (kK mt k W c G d).2.2.1 q)/\((kK mt k W c G d).1=false->Ju ws L q)
 |0,W,c,G,d,D,l,h,B=>by omega
 |k+1,[],c,G,d,D,l,h,B=>⟨fun _=>h,fun q _ g=>⟨fun _=>g,fun e=>(by cases e)⟩⟩|k+1,p::W,c,G,d,D,l,h,B=>by
  simp only[zO]at B;unfold kK;by_cases e:G p.1.toNat=G p.2.toNat;rw[kh e];obtain⟨g1,g2⟩:=OW y o k W c G d D l.skip (h.skip (l.wi p ca) e) ag;exact⟨g1,fun q s g=>g2 q s ⟨g.r,fun z f=>g.w z<|kj _ f⟩⟩;rw[iy e];have T:=l.two;cases hm:mt (E5 c<|G p.1.toNat).kind (E5 c<|G p.2.toNat).kind with
  |none=>
   refine⟨fun q=>(by cases q),fun q s g=>⟨fun q=>(by cases q),fun _=>?_⟩⟩;obtain⟨H,_⟩:=g.aW o (l.mg e) h s (W':=W) fun z f=>.inr f;have J:=y.no _ _ T.km T.kn hm;refine⟨G p.1.toNat,by rw[o.len];exact T.hm,fun b=>?_⟩;have u:(iY ws (E5 c<|G p.1.toNat).kind).testBit b=false\/(iY ws (E5 c<|G p.2.toNat).kind).testBit b=false:=by have:=congrArg (fun x=>x.testBit b) J;simp only[Fq,qcu,qca]at this;exact this
   have find:∀i,i<N->G i=i->(iY ws (E5 c i).kind).testBit b=false->∃(j:Nat)(x:aU),L[j]? = some x/\G j=i/\(iY ws x.R).testBit b=false:=fun i O S M=>by
    refine zg fun I=>?_;have:=(h.kd i O S b).2 fun j x P C=>by rcases R:(iY ws x.R).testBit b with _|_;exact absurd ⟨j,x,P,C,R⟩ I;rfl
    rw[M]at this;cases this
   obtain u |u:=u;obtain⟨j,x,q1,q2,q3⟩:=find _ T.hm T.em u;have v:=(zG.1 q1).1;rw[o.len]at v;exact⟨j,x,q1,g.r _ _ v T.hm (by rw[T.em,q2]),q3⟩;obtain⟨j,x,q1,q2,q3⟩:=find _ T.hn T.en u;have v:=(zG.1 q1).1;rw[o.len]at v;exact⟨j,x,q1,by rw[H];exact g.r _ _ v T.hn (by rw[T.en,q2]),q3⟩
  |some t=>obtain⟨Q,K⟩:=y.yes _ _ _ T.km T.kn hm;have U:=T.M5 e t W;obtain⟨g1,g2⟩:=OW y o k _ _ _ (EY G d<|G p.2.toNat) (D+1) (l.next e Q) (h.aW o (l.mg e) K (Bn _ _ T.am.up T.an.up).pm (fun z f=>vt _<|mem_reverse.2 f) fun z f=>qa _ f) ag;exact⟨g1,fun q s g=>g2 q s (g.aW o (l.mg e) h s fun z f=>by obtain f |f:=yD.1 f;exact .inl<|mem_reverse.1 f;exact .inr f).2⟩
def TC.qg{D:Nat}{E:Int}(B:HW N ws L){d:Nat->Nat}(l:lK N D E ws.length c G d)(h:TC ws N L [] c G):QG ws L G (cG c G):=by
 have q:=B.len;have v:=l.len;have node:∀{i:Nat}{x:aU},(cG c G).D6[i]? = some x->i<N/\c[i]? = some (E5 c i)/\x=CK G (E5 c i):=fun{i x} k=>by
  simp only[cG,vz]at k;rcases f:c[i]? with _|y;rw[f]at k;cases k;have g:i<N:=by have:=(zG.1 f).1;omega
  have:=l.E5 g;rw[f]at this;cases this;rw[f]at k;exact⟨g,rfl,(Option.some.inj k).symm⟩
 refine⟨by simp[cG,v,q],fun i g=>?_,fun i x k o=>?_,fun i x k o=>?_,fun j y a t C=>?_,fun i x b k o H=>?_⟩;rw[q]at g ⊢;exact⟨l.b6.lt i g,l.b6.idem i g⟩;obtain⟨g,f,rfl⟩:=node k;exact⟨l.kd i _ f,h.kd i g o⟩;obtain⟨g,f,rfl⟩:=node k;exact(YK (l.ar i _ f).up).aR;obtain⟨b,w,z,A⟩:=h.nZ j y a t C;have u:=(zG.1 t).1;rw[q]at u;have f:=l.E5<|l.b6.lt j u;refine⟨CK G<|E5 c<|G j,nY G b,by simp only[cG,vz,f,zM],W2 w,z,?_⟩;simp only[nY,rI];rw[A G (fun _ _ _ _ e=>e) fun _ I=>by cases I];obtain⟨g,f,rfl⟩:=node k;obtain⟨s,r,rfl⟩:=mem_map.1 H;obtain⟨j,y,q1,q2,q3⟩:=h.snd i s g o r;exact⟨j,y,s,q1,q2,q3,rfl,rfl⟩
def XR(tr:X dN)(cells:X aY):X aY:=tr.foldr (fun x l=>l.set x.l3.toNat x.W3) cells
def qox(tr:X dN)(x:dN)(cells:X aY):XR (tr++[x]) cells=XR tr (cells.set x.l3.toNat x.W3):=by simp[XR]
def qx8{l:X aY}{k:Nat}{x y:aY}(h:l[k]? = some x):(l.set k y).set k x=l:=by rw[TI];apply me fun i=>?_;rw[mi];by_cases e:k=i;subst e;have f:=(zG.1 h).1;simp[f]at h ⊢;exact h.symm;simp[e]
def z0f{N D:Nat}{E F:Int}{cells:X aY}{G d:Nat->Nat}(h:lK N D E F cells G d):∀(k i:Nat),d i<k->i<N->Od cells k (i:Int)=some (G i:Int)
 |0,i,s,_=>by omega
 |k+1,i,s,u=>by
  have v:=h.len;obtain⟨c,f,_⟩:=gO (l:=cells) (show i<cells.length by omega);simp only[Od,cZ,f,aN];by_cases e:G i=i;have:=h.l4.root i c f e;simp[this,ig,e];obtain⟨j,g,o,q,t⟩:=h.l4.fwd i c f e;have r:decide (c.forward>=0)=true:=by simp[g]
  rw[r,zC,g,z0f h k j ag o,q]
variable{N:Nat}{D:Nat}{E:Int}{F:Int}{cells:X aY}{G:Nat->Nat}{d:Nat->Nat}{n:Nat}{v:Int}
def K!(h:lK N D E F cells G d)(l:D<n)(o:0<=v/\v<(N:Int))(f:X gN)(g:X jJ)(i:X dN)(j:X nP):
  Ob n v f g cells i j=some (rI G v):=by
 have e:v.toNat<N:=by omega
 have k:=h.b6.bd _ e;have:=z0f h n v.toNat ag e;rw[show((v.toNat:Nat):Int)=v by omega]at this;exact this
variable{i:Nat}
def Do{j:Nat}(h:i+j<=1000000000):i64.wrap ((u64.wrap<|i64.wrap<|(i:Int)+(j:Int)).fdiv (2^(min (1:Int).toNat u64.bits)))=(((i+j)/2:Nat):Int):=by
 have e:i64.wrap ((i:Int)+(j:Int))=((i+j:Nat):Int):=MR ag ag;have f:u64.wrap ((i+j:Nat):Int)=((i+j:Nat):Int):=by unfold wrap;simp only[signed,IntKind.bits,Bool.false_and,XM,LX];omega
 have g:min (1:Int).toNat u64.bits=1:=rfl;have k:((i+j:Nat):Int).fdiv (2^1)=(((i+j)/2:Nat):Int):=by rw[show(2:Int)^1=((2:Nat):Int) by rfl,qcJ _<|KR _];rfl
 rw[e,f,g,k];exact wr ag ag
def gZ.lt{l:X aL}(h:gZ l){j:Nat}{x y:aL}(o:l[i]? = some x)(q:l[j]? = some y)(r:i<j):x.D9<y.D9:=by obtain⟨g,e⟩:=zG.1 o;obtain⟨k,f⟩:=zG.1 q;have:=pairwise_iff_getElem.1 h i j g k r;rw[e,f]at this;exact this
structure At(l:X aL)(f:Int)(k:Nat):Prop where
 le:k<=l.length
 lo:∀(i:Nat)(x:aL),l[i]? = some x->i<k->x.D9<f
 hi:∀(i:Nat)(x:aL),l[i]? = some x->k<=i->f<=x.D9
def z7x(n:Nat){x:aL}{f:Int}(e:0<=x.D9/\x.D9<1000000000)(g:0<=f/\f<1000000000):Cc n x f=some (x.D9-f):=by rw[Cc,wr ag ag]
def Iy{N:Nat}{E:Int}{l:X aL}(h:vZ N E l)(O:E<=1000000000)(I:l.length<=1000000){f:Int}(C:0<=f/\f<E)(n:Nat):∀(m i j:Nat),j-i<m->i<=j->j<=l.length->(∀(k:Nat)(x:aL),l[k]? = some x->k<i->x.D9<f)->(∀(k:Nat)(x:aL),l[k]? = some x->j<=k->f<=x.D9)->
  ∃(k:Nat)(b:Rl),V4 l f (Cc n) m (i:Int) (j:Int)=some ((k:Int),b)/\At l f k/\(b=true↔∃x,l[k]? = some x/\x.D9=f)
 |0,i,j,hm,_,_,_,_=>by omega
 |m+1,i,j,hm,S,H,z,A=>by
  unfold V4;by_cases e:i<j;have s:decide ((i:Int)<(j:Int))=true:=by simp;omega
  have M:=Do (i:=i) (j:=j) ag;obtain⟨x,o,u⟩:=gO (l:=l) (show(i+j)/2<l.length by omega);have K:=h.ok x u;have w:=z7x n (x:=x) (f:=f) ag ag;simp only[s,zC,M,cZ,o,aN,w];by_cases B:x.D9-f<0;have Q:i64.wrap ((((i+j)/2:Nat):Int)+1)=(((i+j)/2+1:Nat):Int):=MR ag ag;simp only[B,yC,zC,Ok,Q];refine Iy h O I C n m ((i+j)/2+1) j ag ag H (fun k y g R=>?_) A;by_cases t:k=(i+j)/2;subst t;rw[o]at g;have:=Option.some.inj g;subst this;omega;have:=h.up.lt g o ag;omega;simp only[B,yB,zD,Ok];refine Iy h O I C n m i ((i+j)/2) ag ag ag z (fun k y g R=>?_);by_cases t:k=(i+j)/2;subst t;rw[o]at g;have:=Option.some.inj g;subst this;omega;have:=h.up.lt o g ag;omega;have P:i=j:=by omega
  subst P;have s:decide ((i:Int)<(i:Int))=false:=by simp
  have J:At l f i:=⟨H,z,A⟩;simp only[s,zD,iw];by_cases r:i<l.length;obtain⟨x,o,u⟩:=gO r;have K:=h.ok x u;have w:=z7x n (x:=x) (f:=f) ag ag;simp only[nL r,zC,cZ,o,aN,w];refine⟨i,_,rfl,J,?_⟩;rw[beq_iff_eq];constructor;intro q;exact⟨x,o,by omega⟩;rintro⟨y,g,q⟩;rw[o]at g;have:=Option.some.inj g;subst this;omega;simp only[oD r,zD,aN];refine⟨i,false,rfl,J,by simp,?_⟩;rintro⟨y,g,_⟩;exact absurd (zG.1 g).1 r
def qpf{N:Nat}{E:Int}{a b:X aL}(I:vZ N E a)(s:vZ N E b)(O:E<=1000000000)(Q:a.length<=20000)(u:b.length<=20000){n:Nat}(Z:60000<=n):∀(m k:Nat)(o:X aL),b.length-k<m->k<=b.length->qZ a (b.take k) o->
  ∃o',Cp b n m (k:Int) ((W0 a<|b.take k).map pk) o=some (o',(W0 a b).map pk)/\qZ a b o'
 |0,k,o,hm,_,_=>by omega
 |m+1,k,o,hm,hk,r=>by
  unfold Cp;have FY:=r.len;have G3:(b.take k).length<=20000:=by rw[Wz];omega
  by_cases t:k<b.length;obtain⟨y,M,HE⟩:=gO t;have C:=s.ok y HE;have w:=r.ok I ⟨s.up.sublist<|IQ k b,fun x j=>s.ok x<|zn j⟩;obtain⟨i,bb,s1,J,s3⟩:=Iy w O ag (f:=y.D9) ⟨C.1,C.2.1⟩ n n 0 o.length ag ag (zF _) (fun k x _ h=>ag) (fun k x j h=>by have:=(zG.1 j).1;omega);rw[zV]at s1;simp only[nL t,zC,cZ,M,aN,iv,s1];have ht:=lG M;cases bb with
  |true=>
   obtain⟨x,j,e⟩:=s3.1 rfl;have fD:=zX j;have B:x∈a:=by
    rcases yD.1 (r.pm.mem_iff.1 fD)with h |h;exact h;exfalso;have V:=(mem_filter.1 h).1;obtain⟨q,g⟩:=mem_iff_getElem?.1 V;have H:q<k:=by have:=(zG.1 g).1;rw[Wz]at this;omega
    rw[Ia H]at g;have:=s.up.lt g M H;omega
   have A:=quk (b:=b.take k) I.up.aR B e;have pM:(W0 a<|b.take k).length<=20000:=by have:=Ls a<|b.take k;omega
   simp only[zC,j,aN,pS t<|show b.length<=9223372036854775807 by omega];rw[aE,kh (by simp only[yA];omega)];have U:=r.HP B e;rw[<-ht]at A U;have:=qpf I s O Q u Z m (k+1) o ag ag U;rw[A,LY]at this;exact this
  |false=>
   have fS:∀x,o[i]? = some x->x.D9≠y.D9:=fun x j e=>by have:=s3.2 ⟨x,j,e⟩;cases this
   have S:∀z∈o.take i,z.D9<y.D9:=fun z P=>by
    obtain⟨q,g⟩:=mem_iff_getElem?.1 P;have H:q<i:=by have:=(zG.1 g).1;rw[Wz]at this;omega
    rw[Ia H]at g;exact J.lo q z g H
   have rf:∀z∈o.drop i,y.D9<z.D9:=fun z P=>by
    obtain⟨q,g⟩:=mem_iff_getElem?.1 P;rw[na]at g;have V:=J.hi (i+q) z g ag;cases q with
    |zero=>have:=fS z g;omega|succ q=>obtain⟨x,j,_⟩:=gO (l:=o) (show i<o.length by have:=(zG.1 g).1;omega);have h2:=w.up.lt j g ag;have h3:=J.hi i x j<|zF _;omega
   have T:=r.out S rf;have K:∀x∈a,x.D9≠y.D9:=fun x j e=>by have R:x∈o:=r.pm.mem_iff.2<|vt _ j;rw[<-Ww i o]at R;obtain h |h:=yD.1 R;have:=S x h;omega;have:=rf x h;omega
   have A:=qse (b:=b.take k) K;have Y:=J.le;have Ge:ie n (i:Int) o y.D9 y.To=some (o.take i++y::o.drop i):=by rw[ie,aE,kh ag,zZ]
   simp only[zD,Ge,aN,pS t<|show b.length<=9223372036854775807 by omega];rw[<-ht]at A T;have:=qpf I s O Q u Z m (k+1) _ ag ag T;rw[A]at this;exact this
  have e:b.take k=b:=zW ag;rw[e]at r ⊢;simp only[oD t,zD,dq];exact⟨o,rfl,r⟩
def z7t{p7:X dN}(t:p7.length<=1000000){N:Nat}:∀(m:Nat)(tl:X dN)(c:X aY),tl.length<m->tl.length<=1000000->c.length=N->(∀x∈tl,0<=x.l3/\x.l3<(N:Int))->Oe (p7.length:Int) m c (p7++tl)=some (XR tl c,p7)
 |0,tl,c,hm,_,_,_=>by omega
 |m+1,tl,c,hm,s,r,f=>by
  unfold Oe;obtain e |⟨tl,x,e⟩:=eq_nil_or_concat tl;subst e;have:decide (((p7++[]).length:Int)>(p7.length:Int))=false:=by simp
  rw[this,zD,ii,il];rfl;rw[concat_eq_append]at e;subst e;rw[<-zT];simp only[zU,zO,zS]at hm s;obtain⟨A,g,j,k⟩:=z8u (p7++tl) x (by simp only[zU];omega);have B:=f x ca;have o:decide (((p7++tl++[x]).length:Int)>(p7.length:Int))=true:=by simp;omega
  obtain⟨y,u,_⟩:=gO (l:=c) (show x.l3.toNat<c.length by omega);have q:aC c x.l3=some y:=by rw[show x.l3=((x.l3.toNat:Nat):Int) by omega,cZ];exact u
  rw[o,zC,g,j,aN,q,aN,aE,kh (by simp only[zU,zO,zS];omega),aE,kh (by simp only[zU,zO,zS,zZ];omega),zZ,k,Wy,qox];exact z7t t m tl _ ag ag (by simp[r]) (fun z w=>f z<|vt _ w)
variable{c:X aY}
def Ja{m:Nat}(T:Fb N E F c G m n)(e:m≠n)(t:Int)(o:X aL)(tl:X dN):XR ((tl++[⟨(m:Int),E5 c m⟩])++[⟨(n:Int),E5 c n⟩]) (uU c m n t o)=XR tl c:=by
 rw[qox,qox];have f:(c.set m ⟨-1,t,o⟩)[n]? = some (E5 c n):=by rw[Ty e];exact T.cn
 simp only[zZ,uU];rw[qx8 f,qx8 T.cm]
def p?{h:dK}{ws:X Nat}(H:oE h ws){N:Nat}{E:Int}(O:E<=1000000000){n:Nat}(Z:100000<=n){p7:X dN}(z:p7.length<=100000)(u:X nP)(y:X aY):∀(k:Nat)(W:X (Int×Int))(c:X aY)(G d:Nat->Nat)(D:Nat)(tl:X dN)(t:Nat),
  fE N D E ws.length W c G d->W.length+M5 c<k->D+W.length+M5 c<=20000->(∀x∈tl,0<=x.l3/\x.l3<(N:Int))->XR tl c=y->tl.length+2*(W.length+M5 c)<=90000-> ((kK (DT n h) k W c G d).1=true->∃j s,NV h.Types h.E3 p7 u n k (mf W) c (p7++tl) t=some (true,(kK (DT n h) k W c G d).2.1,p7++j,s)/\XR j (kK (DT n h) k W c G d).2.1=y/\(∀x∈j,0<=x.l3/\x.l3<(N:Int))/\j.length+2*M5 (kK (DT n h) k W c G d).2.1<=tl.length+2*(W.length+M5 c))/\ ((kK (DT n h) k W c G d).1=false->∃s,NV h.Types h.E3 p7 u n k (mf W) c (p7++tl) t=some (false,y,p7,s))
 |0,W,c,G,d,D,tl,t,f,I,_,_,_,_=>by omega
 |k+1,[],c,G,d,D,tl,t,f,I,U,A,w,S=>by have e:decide (((mf []).length:Int)>0)=false:=rfl;simp only[kK,NV,e,zD,iq];exact⟨fun _=>⟨tl,t,rfl,w,A,by simp⟩,fun q=>by cases q⟩
 |k+1,p::W,c,G,d,D,tl,t,f,I,U,A,w,S=>by
  simp only[zO]at I U S;obtain⟨jN,oJ⟩:=f.wi p ca;obtain⟨h1,h2,h3,h4⟩:=z8u (mf W) (pk p) (by rw[z3q];omega);have f1:=K! f.hp (n:=n) ag jN h.Types h.E3 (p7++tl) u;have f2:=K! f.hp (n:=n) ag oJ h.Types h.E3 (p7++tl) u;have aP:=z3q W;rw[z79];unfold NV;simp only[h1,h2,h3,zC,aN,zZ,h4];rw[aE,kh (by simp only[zU,zO,zS];omega),aE,kh (by simp only[zU,zO,zS];omega)];simp only[pk,f1,f2,aN];unfold kK;by_cases e:G p.1.toNat=G p.2.toNat;have C:(rI G p.1==rI G p.2)=true:=by simp[rI,e]
  simp only[C,zC];rw[kh e];have:=p? H O Z z u y k W c G d D tl t f.skip ag ag A w ag;refine⟨fun q=>?_,this.2⟩;obtain⟨j,s,M,P,Q,r4⟩:=this.1 q;exact⟨j,s,M,P,Q,by simp only[zO];omega⟩;have C:(rI G p.1==rI G p.2)=false:=by simp only[rI,beq_eq_false_iff_ne];omega
  have T:=f.two;have i1:aC c (rI G p.1)=some (E5 c<|G p.1.toNat):=by rw[rI,cZ];exact T.cm
  have i2:aC c (rI G p.2)=some (E5 c<|G p.2.toNat):=by rw[rI,cZ];exact T.cn
  simp only[C,zD,i1,i2,aN];rw[iy e];have fB:=f.hp.len;obtain⟨J,⟨⟨q1,q2⟩,K,B⟩,_⟩|⟨r,J,K,B,_⟩:=Rz H T.km T.kn (n:=n) ag;simp only at B;subst B;have hb:=z7t (p7:=p7) ag n tl c ag ag fB A;have R:FC n (dK.mk h.Types h.E3) (E5 c<|G p.1.toNat).kind (E5 c<|G p.2.toNat).kind=some (q1,false):=K;simp only[J,R,aN,lf,zC,fx,hb,w];exact⟨(fun q=>by cases q),fun _=>⟨t,rfl⟩⟩;have R:FC n (dK.mk h.Types h.E3) (E5 c<|G p.1.toNat).kind (E5 c<|G p.2.toNat).kind=some (r,true):=K;have ta:=Lp T.cm;have tb:=Lp T.cn;obtain⟨o,j1,j2⟩:=qpf T.am T.an O ag ag (n:=n) ag n 0 (E5 c<|G p.1.toNat).D8 ag ag (qZ.AO T.am.up);rw[zV,vp,z2n,gg]at j1;have j3:=j2.uniq<|Bn _ _ T.am.up T.an.up;have jc:Wj n (E5 c<|G p.1.toNat).D8=some (E5 c<|G p.1.toNat).D8:=by
   rw[Wj];cases V:(E5 c<|G p.1.toNat).D8 with
   |nil=>first |rfl |(simp[Rs,V])
   |cons x l=>rw[Rs];simp only[zC,zD];rw[V]at ta;rw[aE,kh ag]
  have jj:Vb n (E5 c<|G p.1.toNat).D8 (E5 c<|G p.2.toNat).D8=some (o,(W0 (E5 c<|G p.1.toNat).D8 (E5 c<|G p.2.toNat).D8).map pk):=by rw[Vb,jc,aN,j1]
  have e2:(c.set (0+(rI G p.1).toNat)<|aY.mk (-1) r o)[G p.2.toNat]? = some (E5 c<|G p.2.toNat):=by rw[rI,zZ,Wy,Ty e];exact T.cn
  have i3:aC (c.set (0+(rI G p.1).toNat)<|aY.mk (-1) r o) (rI G p.2)=some (E5 c<|G p.2.toNat):=by rw[show rI G p.2=((G p.2.toNat:Nat):Int)from rfl,cZ];exact e2
  simp only[J,R,aN,fX,zD,jj,fp,fm,i1];rw[aE,kh (by simp only[zU];omega)];simp only[aN,i3];rw[aE,kh (by simp only[zU,zO,zS];omega)];have pM:=Ls (E5 c<|G p.1.toNat).D8 (E5 c<|G p.2.toNat).D8;simp only[aN];rw[aE,kh (by simp only[yA];omega)];have Y:=T.M5 e r W;have ih:=p? H O Z z u y k _ _ _ _ (D+1) ((tl++[⟨rI G p.1,E5 c<|G p.1.toNat⟩])++[⟨rI G p.2,E5 c<|G p.2.toNat⟩]) (t+1+1) (f.next e B) ag ag
   (fun x g=>by simp only[yD,zI,ml,or_false]at g;rcases g with(g |g)|g;exact A x g;subst g;exact f.hp.rI jN;subst g;exact f.hp.rI oJ)
   ((Ja T e r _ tl).trans w) (by simp only[zU,zO,zS];simp only[zU]at Y;omega)
  have ea:p7++tl++[⟨rI G p.1,E5 c<|G p.1.toNat⟩]++[⟨rI G p.2,E5 c<|G p.2.toNat⟩]=p7++((tl++[⟨rI G p.1,E5 c<|G p.1.toNat⟩])++[⟨rI G p.2,E5 c<|G p.2.toNat⟩]):=by simp
  have ec:(c.set (0+(rI G p.1).toNat)<|aY.mk (-1) r o).set (0+(rI G p.2).toNat) (aY.mk (rI G p.1) 0 [])=uU c (G p.1.toNat) (G p.2.toNat) r (vW (E5 c<|G p.1.toNat).D8 (E5 c<|G p.2.toNat).D8):=by simp[uU,rI,j3]
  rw[ea,ec,zbc];refine⟨fun q=>?_,ih.2⟩;obtain⟨j,s,M,P,Q,r4⟩:=ih.1 q;refine⟨j,s,M,P,Q,?_⟩;simp only[zU,zO,zS]at r4 Y ⊢;omega
def z0i{N D B:Nat}{E F:Int}{cells:X aY}{G d:Nat->Nat}(h:lK N D E F cells G d)(P:M5 cells<=B)(C:B<=20000)(hN:N<=1000)(hD:D<=20000)(o:X gN)(q:X jJ)(r:X dN)(k:X nP):∀(n:Nat)(s:X Int×X aU)(v:Int)(w:kF Int Int)(t:Nat),Sn N B s->(0<=v/\v<(N:Int))->dc w s.1->N-s.1.length+20001<n->
  ∃g A,V2 n v o q w s.2 t cells r k=some ((eg cells G n s v).1,g,(eg cells G n s v).2.2,A)/\dc g (eg cells G n s v).2.1
 |0,s,v,w,t,y,J,z,hn=>by omega
 |n+1,s,v,w,t,y,J,z,hn=>by
  have hf:=K! h (n:=n) ag J o q r k;have R:=h.rI J;have sO:=y.le;show ∃g A,ir n (V2 n) v o q w s.2 t cells r k=_/\_;simp only[ir,hf,aN,z.AN];unfold eg;by_cases hm:rI G v∈s.1;simp only[hm,It,Option.isSome_some,zC,gK];exact⟨w,t,rfl,z⟩;have I:=h.nM R;have ru:aC cells (rI G v)=some (pG cells<|rI G v):=by rw[show rI G v=(((rI G v).toNat:Nat):Int) by omega,cZ];exact I
  have wb:=h.ar _ _ I;have Ey:=Lp I;have V:=y.snoc R hm (pG cells<|rI G v).kind;have tQ:=V.le;simp only[zU,zO,zS]at tQ;have M:=y.len;simp only[hm,LX,KF,zD,ru,aN];rw[aE,kh ag];have kR:∀a∈(pG cells<|rI G v).D8,0<=a.To/\a.To<(N:Int):=fun a H=>(wb.ok a H).2.2;have key:∀(m i:Nat)(f:X aL)(e:X Int×X aU)(w:kF Int Int)(t:Nat),(pG cells<|rI G v).D8.length-i<m->i<=(pG cells<|rI G v).D8.length->f.length=i->Sn N B e->s.1.length+1<=e.1.length->dc w e.1->
    ∃g A,Oi o q s.2 cells r k (pG cells<|rI G v) (V2 n) m (i:Int) f w e.2 t=Ws s.2 (uR (eg cells G n) ((pG cells<|rI G v).D8.drop i) e f).1 g (uR (eg cells G n) ((pG cells<|rI G v).D8.drop i) e f).2.2 A/\dc g (uR (eg cells G n) ((pG cells<|rI G v).D8.drop i) e f).2.1/\Sn N B (uR (eg cells G n) ((pG cells<|rI G v).D8.drop i) e f).2/\s.1.length+1<=(uR (eg cells G n) ((pG cells<|rI G v).D8.drop i) e f).2.1.length:=by
   intro m;induction m with
   |zero=>intro i f e w t hm;omega|succ m ih=>intro i f e w t hm hi H u vE S;unfold Oi;by_cases j:i<(pG cells<|rI G v).D8.length;obtain⟨a,U,Y⟩:=gO j;have T:=kR a Y;have Q:=u.le;obtain⟨K,t1,g1,g2⟩:=z0i h P C hN hD o q r k n e a.To w t u T S ag;obtain⟨q1,q2,q3⟩:=R_ h P n e a.To u T ag;simp only[nL j,zC,cZ,U,aN,g1,pS j<|show(pG cells<|rI G v).D8.length<=9223372036854775807 by omega];rw[aE,kh ag,b7 U,uR];exact ih (i+1) _ _ K t1 ag ag (by simp[H]) q1 ag g2;rw[bZ j];simp only[oD j,zD,uR];exact⟨w,t,rfl,S,u,vE⟩
  obtain⟨K,t1,g1,g2,O,Z⟩:=key n 0 [] (s.1++[rI G v],s.2++[⟨(pG cells<|rI G v).kind,[]⟩]) (DG (fun a b=>a==b) w (rI G v) (s.2.length:Int)) (t+1) ag ag rfl V ca (by rw[M];exact z.snoc hm);rw[zV]at g1;rw[Xl]at g1 g2 O Z;rw[g1];refine⟨K,t1,?_,g2⟩;obtain⟨x,hx,_⟩:=gO (l:=(uR (eg cells G n) (pG cells<|rI G v).D8 (s.1++[rI G v],s.2++[⟨(pG cells<|rI G v).kind,[]⟩]) []).2.2) (show s.2.length<_ by have:=O.len;omega);simp only[Ws,cZ,hx,aN,Wy,zZ,Kh,<-M,zM,gK]
def mn(n:Nat)(cells:X aY)(G:Nat->Nat)(v:Int):cb:=⟨(eg cells G n ([],[]) v).2.2⟩
def z5r(h:lK N D E F cells G d)(o:M5 cells<=20000)(r:N<=1000)(q:D<=20000)(u:30000<=n)(s:0<=v/\v<(N:Int))(f:X gN)(g:X jJ)(j:X dN)(e:X nP):
  Wo n v f g cells j e=some (mn n cells G v,true):=by
 have t:=h.len;obtain⟨x,w,g1,_⟩:=z0i h o ag r q f g j e n ([],[]) v GQ 0 (Sn.nil N 20000) s dc.nil (by simp;omega);have k:decide (v<0)=false:=by simp;omega
 have l:decide (v>=(cells.length:Int))=false:=by simp;omega
 simp only[Wo,k,l,zD,aN,g1,mn]
def z0w{f:X aY}{z:Int}{l24:X aY}{t:Nat}{rc:Int->X aY->Nat->A (Int×X aY×Nat)}{x:aU}(q:x.E2.length<=12)(k:f.length<=1000)(l:∀a∈x.E2,0<=a.To/\a.To<1000):∀(m i:Nat),x.E2.length-i<m->i<=x.E2.length->Of f z l24 t rc x m (i:Int) ((x.E2.take i).map (oA f.length))=Wr z l24 t rc x (x.E2.map<|oA f.length)
 |0,i,hm,_=>by omega
 |m+1,i,hm,r=>by
  unfold Of;by_cases g:i<x.E2.length;obtain⟨a,j,o⟩:=gO g;have e:(x.E2.take i).map (oA f.length)++[aL.mk a.D9<|a.To+(f.length:Int)]=(x.E2.take<|i+1).map (oA f.length):=by rw[lG j,LY];rfl
  simp only[nL g,zC,cZ,j,aN,u? (l a o) k,pS g (show x.E2.length<=9223372036854775807 by omega),e];rw[aE,kh (by simp only[yA,Wz];omega)];exact z0w q k l m (i+1) ag ag;simp only[oD g,zD];rw[zW ag]
def z0v{f:cb}(k:dC f 12)(s:∀x∈f.D6,∀a∈x.E2,0<=a.To/\a.To<1000){g:X aY}(q:g.length<=1000){n:Nat}(u:20<=n){t0:Nat}:∀(m i:Nat),f.D6.length-i<m->i<=f.D6.length->QE f g n m (i:Int) (g++(f.D6.take i).map (jX g.length)) (t0+i)=some ((g.length:Int),g++f.D6.map (jX g.length),t0+f.D6.length)
 |0,i,hm,_=>by omega
 |m+1,i,hm,w=>by
  have y:=k.nodes;unfold QE;by_cases j:i<f.D6.length;obtain⟨x,r,l⟩:=gO j;have o:=z0w (z:=(i:Int)) (l24:=g++(f.D6.take i).map (jX g.length)) (t:=t0+i) (rc:=QE f g n m) (k.D8 x l) q (s x l) n 0 (by have:=k.D8 x l;omega) ag;rw[zV,vp,gg]at o;have e:g++(f.D6.take i).map (jX g.length)++[aY.mk (-1) x.R<|x.E2.map<|oA g.length]=g++(f.D6.take<|i+1).map (jX g.length):=by rw[lG r,LY,zT];rfl
  simp only[nL j,zC,cZ,r,aN,o,Wr,pS j (show f.D6.length<=9223372036854775807 by omega),e];rw[aE,kh (by simp only[zU,yA,Wz];omega)];exact z0v k s q u m (i+1) ag ag;have e:i=f.D6.length:=by omega
  subst e;simp only[oD j,zD,ij,xe]
def sr{f:cb}(g:dC f 12)(l:∀x∈f.D6,∀a∈x.E2,0<=a.To/\a.To<1000){e:X aY}(k:e.length<=1000)(j:20<=n)(t0:Nat)(o:X gN)(q:X jJ)(r:X dN)(s:X nP):Ow n f o q e t0 r s=some ((e.length:Int),e++f.D6.map (jX e.length),t0+f.D6.length):=by have:=z0v g l k j (t0:=t0) n 0 (by have:=g.nodes;omega) ag;rw[zV,vp,gg,il,ek]at this;exact this
def z6u(h:lK N D E F cells G d)(k:N<n)(e:0<=v/\v<(N:Int)):mn n cells G v=bX (cG cells G) (rI G v):=by
 have j:(cG cells G).D6.length=N:=by simp[cG,h.len]
 have f:=h.rI e;have:=z44 h (zF _) n ([],[]) v (Sn.nil N _) e (by simp;omega) ca;obtain⟨l,g⟩:=H6 h.M6 (r:=rI G v) (by rw[fU,j];exact f);rw[mn,this];simp only[zS,Xl,eY,g n ag,bX]
def Ay{f:Type}{a b:X f}{x:f}(h:(a++b)[i]? = some x):(i<a.length/\a[i]? = some x)\/(a.length<=i/\b[i-a.length]? = some x):=by by_cases e:i<a.length;rw[kl e]at h;exact .inl ⟨e,h⟩;rw[kq ag]at h;exact .inr ⟨by omega,h⟩
def ext(N:Nat)(f:Nat->Nat)(i:Nat):Nat:=if i<N then f i else i
def vZ.wJ{e:Nat}{l:X aL}(h:vZ N E l)(g:N<=e):vZ e E l:=⟨h.up,fun a f=>by have:=h.ok a f;omega⟩
variable{h:dK}
def z0h{ws:X Nat}(B:oE h ws)(o:lK N D (h.E3.length:Int) (ws.length:Int) c G d){f:cb}(A:tH h f):lK (N+f.D6.length) D (h.E3.length:Int) (ws.length:Int) (c++f.D6.map (jX N)) (ext N G) (fun i=>if i<N then d i else 0):=by
 have z:=o.len;have w:∀x∈f.D6.map (jX N),Flat (N+f.D6.length) (h.E3.length:Int) (ws.length:Int) x:=fun x q=>by rw[<-B.tl];exact A.flat (zF _) q
 have r:∀{g:Nat->Nat}{i:Nat},i<N->ext N g i=g i:=fun t=>kh t;have k:∀{g:Nat->Nat}{i:Nat},N<=i->ext N g i=i:=fun{g i} t=>iy ag;refine⟨⟨fun i t=>?_,fun i t=>?_,fun i t=>?_,fun i t=>?_⟩,⟨fun i x q u=>?_,fun i x q u=>?_⟩,by simp[z],fun i x q=>?_,fun i x q=>?_⟩;by_cases e:i<N;rw[r e];have:=o.b6.lt i e;omega;rw[k ag];exact t;by_cases e:i<N;rw[r e,r<|o.b6.lt i e];exact o.b6.idem i e;have y:ext N G i=i:=k ag;rw[y,y];by_cases e:i<N;rw[r e,kh<|o.b6.lt i e];exact o.b6.zero i e;rw[k ag,iy e];show(if i<N then d i else 0)<=D;by_cases e:i<N;rw[kh e];exact o.b6.bd i e;rw[iy e];omega;obtain⟨s,l⟩|⟨s,l⟩:=Ay q
 rw[r ag]at u;exact o.l4.root i x l u;exact(w x<|zX l).fw;obtain⟨s,l⟩|⟨s,l⟩:=Ay q;have e:i<N:=by omega
 rw[r e]at u;obtain⟨j,q1,q2,q3,q4⟩:=o.l4.fwd i x l u;exact⟨j,q1,by omega,by rw[r q2,r e];exact q3,by simp only[q2,e,It];exact q4⟩;exact absurd (k ag) u;obtain⟨s,l⟩|⟨s,l⟩:=Ay q;exact(o.ar i x l).wJ ag;exact(w x<|zX l).ar;obtain⟨s,l⟩|⟨s,l⟩:=Ay q;exact o.kd i x l;exact(w x<|zX l).kd
def Xp{ws:X Nat}(l:oE h ws)(o:2000<=n):yh ws (DT n h):=⟨fun s t j k e=>by
  obtain⟨_,_,g⟩|⟨r,f,_⟩:=Rz l j k o;exact g;rw[f]at e;exact(Option.some_ne_none _ e).elim,fun s t r j k e=>by
  obtain⟨f,_⟩|⟨u,f,_,g,q⟩:=Rz l j k o;rw[f]at e;cases e;rw[f]at e;cases e;exact⟨g,q⟩⟩
def z7f{tl:X dN}{m:X nP}{a b:Int}{t:Nat}(e:0<=a/\a<(c.length:Int))(f:0<=b/\b<(c.length:Int)):Wq n a b h.Types h.E3 c tl t m=NV h.Types h.E3 tl m n n (mf [(a,b)]) c tl t:=by
 have q1:decide (a<0)=false:=by simp;omega
 have q2:decide (a>=(c.length:Int))=false:=by simp only[Bm];omega
 have q3:decide (b<0)=false:=by simp;omega
 have q4:decide (b>=(c.length:Int))=false:=by simp only[Bm];omega
 simp only[Wq,q1,q2,q3,q4,zD,aN];rfl
def nA(R:Int->Int->Prop):X aL->X aL->Prop
 |[],[]=>True|x::a,y::b=>x.D9=y.D9/\R x.To y.To/\nA R a b
 |_,_=>False
def AE(R:Int->Int->Prop):X (Int×Int)->X (Int×Int)->Prop
 |[],[]=>True|p::a,q::b=>(R p.1 q.1/\R p.2 q.2)/\AE R a b
 |_,_=>False
def nA.mono{R e:Int->Int->Prop}(h:∀x y,R x y->e x y):∀{a b:X aL},nA R a b->nA e a b
 |[],[],_=>trivial|x::a,y::b,q=>⟨q.1,h _ _ q.2.1,nA.mono h q.2.2⟩
 |[],_::_,q=>q.elim|_::_,[],q=>q.elim
def AE.mono{R e:Int->Int->Prop}(h:∀x y,R x y->e x y):∀{a b:X (Int×Int)},AE R a b->AE e a b
 |[],[],_=>trivial|x::a,y::b,q=>⟨⟨h _ _ q.1.1,h _ _ q.1.2⟩,AE.mono h q.2⟩
 |[],_::_,q=>q.elim|_::_,[],q=>q.elim
def AE.app{R:Int->Int->Prop}:∀{a b c e:X (Int×Int)},AE R a b->AE R c e->AE R (a++c) (b++e)
 |[],[],_,_,_,h=>h|x::a,y::b,_,_,q,h=>⟨q.1,AE.app q.2 h⟩
 |[],_::_,_,_,q,_=>q.elim|_::_,[],_,_,q,_=>q.elim
def AE.rev{R:Int->Int->Prop}:∀{a b:X (Int×Int)},AE R a b->AE R a.reverse b.reverse
 |[],[],_=>trivial|x::a,y::b,q=>by rw[reverse_cons,reverse_cons];exact(AE.rev q.2).app ⟨q.1,trivial⟩
 |[],_::_,q=>q.elim|_::_,[],q=>q.elim
def nA.find{R:Int->Int->Prop}(f:Int):∀{a b:X aL},nA R a b->(a.find? (fun x=>x.D9==f)=none/\b.find? (fun x=>x.D9==f)=none)\/∃x y,a.find? (fun x=>x.D9==f)=some x/\b.find? (fun x=>x.D9==f)=some y/\R x.To y.To
 |[],[],_=>.inl ⟨rfl,rfl⟩|x::a,y::b,q=>by simp only[find?_cons,<-q.1];rcases h:x.D9==f with _|_;exact nA.find f q.2.2;exact .inr ⟨x,y,rfl,rfl,q.2.1⟩
 |[],_::_,q=>q.elim|_::_,[],q=>q.elim
def nA.W0{R:Int->Int->Prop}{a b:X aL}(h:nA R a b):∀{c e:X aL},nA R c e->AE R (Go.Proofs.W0 a c) (Go.Proofs.W0 b e)
 |[],[],_=>trivial|x::c,y::e,q=>by rw[pd,pd,<-q.1];obtain⟨f,g⟩|⟨u,v,f,g,j⟩:=h.find x.D9;rw[f,g];exact nA.W0 h q.2.2;rw[f,g];exact⟨⟨j,q.2.1⟩,nA.W0 h q.2.2⟩
 |[],_::_,q=>q.elim|_::_,[],q=>q.elim
def qoa(x:aL)(a:X aL):vW (x::a) []=x::a:=by rw[vW];intro h;cases h
def nA.merge{R:Int->Int->Prop}: ∀(a b c e:X aL),nA R a b->nA R c e->nA R (vW a c) (vW b e)
  |[],[],c,e,_,h=> by rw[vW,vW];exact h
  |x::a,y::b,[],[],h,_=> by rw[qoa,qoa];exact h
  |x::a,y::b,z::c,w::e,h,g=> by rw[vW,vW, <-h.1, <-g.1];by_cases f:x.D9<z.D9;rw[kh f,kh f];exact⟨h.1,h.2.1,nA.merge a b (z::c) (w::e) h.2.2 g⟩;rw[iy f,iy f];by_cases j:z.D9<x.D9;rw[kh j,kh j];exact⟨g.1,g.2.1,nA.merge (x::a) (y::b) c e h g.2.2⟩;rw[iy j,iy j];exact⟨h.1,h.2.1,nA.merge a b c e h.2.2 g.2.2⟩
  |[],_::_,_,_,q,_=> q.elim|_::_,[],_,_,q,_=> q.elim
  |_::_,_::_,[],_::_,_,q=> q.elim|_::_,_::_,_::_,[],_,q=> q.elim
 termination_by a b c e=> a.length+c.length
def nA.xN{R:Int->Int->Prop}{g h:aL->aL}:∀{l:X aL},(∀a∈l,(g a).D9=(h a).D9/\R (g a).To (h a).To)->nA R (l.map g) (l.map h)
 |[],_=>trivial|x::l,q=>⟨(q x ca).1,(q x ca).2,nA.xN fun a e=>q a<|kj _ e⟩
def BR(e:Nat)(G f:Nat->Nat)(u v:Int):Prop:=(0<=u/\u<(e:Int))/\G (f u.toNat)=G v.toNat
variable{G:Nat->Nat}
def BR.aW{e:Nat}{f:Nat->Nat}{m n:Nat}{u v:Int}(h:BR e G f u v):BR e (gM G m n) f u v:=⟨h.1,gm h.2⟩
structure Bi(N':Nat)(c':X aY)(bS:Nat->Nat)(c:X aY)(G φ:Nat->Nat):Prop where
 inj:∀i j,i<N'->j<N'->(bS i=bS j↔G (φ i)=G (φ j))
 kd:∀i,i<N'->bS i=i->(E5 c' i).kind=(E5 c (G (φ i))).kind
 ar:∀i,i<N'->bS i=i->nA (BR N' G φ) (E5 c' i).D8 (E5 c (G (φ i))).D8
def Bi.aW{u N:Nat}{E F:Int}{M c:X aY}{r G g:Nat->Nat}(B:Bi u M r c G g){k l m n:Nat}(C:Fb u E F M r k l)(T:Fb N E F c G m n)(vE:M.length=u)(hl:c.length=N)(em:G (g k)=m)(V:G (g l)=n)(O:k≠l)(S:m≠n)(t:Int){U o:X aL}(Z:nA (BR u G g) U o):
  Bi u (uU M k l t U) (gM r k l) (uU c m n t o) (gM G m n) g:=by
 have Y:=C.hm;have rK:=C.hn;have hm:=T.hm;have hn:=T.hn;have R:∀i,i<u->(r i=l↔G (g i)=n):=fun i f=>by have:=B.inj i l f rK;rw[C.en,V]at this;exact this
 have Q:∀i,i<u->(r i=k↔G (g i)=m):=fun i f=>by have:=B.inj i k f Y;rw[C.em,em]at this;exact this
 have at_:∀i,i<u->gM r k l i=i->i≠l/\r i=i/\G (g i)≠n/\gM G m n (g i)=G (g i)/\(i=k↔G (g i)=m):=fun i f I=>by obtain⟨y,z⟩:=Mq C.em O I;have A:G (g i)≠n:=fun q=>y (by have:=(R i f).2 q;omega);refine⟨y,z,A,by unfold gM;rw[iy A],?_⟩;rw[<-Q i f,z]
 refine⟨fun i j f P=>?_,fun i f I=>?_,fun i f I=>?_⟩;have J:=R i f;have K:=R j P;have a3:=Q i f;have a4:=Q j P;have a5:=B.inj i j f P;unfold gM;by_cases w:r i=l<;>by_cases x:r j=l;simp[w,x,J.1 w,K.1 x];rw[kh w,iy x,kh<|J.1 w,iy fun q=>x<|K.2 q];exact⟨fun q=>(a4.1 q.symm).symm,fun q=>(a4.2 q.symm).symm⟩;rw[iy w,kh x,iy fun q=>w<|J.2 q,kh<|K.1 x];exact a3;rw[iy w,iy x,iy fun q=>w<|J.2 q,iy fun q=>x<|K.2 q];exact a5;obtain⟨y,z,A,e,H⟩:=at_ i f I;rw[e,Mm ag ag O,Mm ag ag S,iy y,iy A];by_cases s:i=k;rw[kh s,kh<|H.1 s];rw[iy s,iy fun q=>s<|H.2 q];exact B.kd i f z;obtain⟨y,z,A,e,H⟩:=at_ i f I;rw[e,Mm ag ag O,Mm ag ag S,iy y,iy A];by_cases s:i=k;rw[kh s,kh<|H.1 s];exact Z.mono fun _ _ q=>q.aW;rw[iy s,iy fun q=>s<|H.2 q];exact(B.ar i f z).mono fun _ _ q=>q.aW
def Y?{mt:Int->Int->A Int}{H N:Nat}{E F:Int}{C:Nat->Nat}(M:∀s t r,(0<=s/\s<F)->(0<=t/\t<F)->mt s t=some r->0<=r/\r<F):∀(k:Nat)(u W:X (Int×Int))(j c:X aY)(f l G d:Nat->Nat)(x D:Nat),fE H x E F u j f l->fE N D E F W c G d->Bi H j f c G C->AE (BR H G C) u W->
  (kK mt k u j f l).1=(kK mt k W c G d).1/\((kK mt k u j f l).1=true->Bi H (kK mt k u j f l).2.1 (kK mt k u j f l).2.2.1 (kK mt k W c G d).2.1 (kK mt k W c G d).2.2.1 C)
 |0,u,W,j,c,f,l,G,d,x,D,w,y,B,z=>⟨rfl,fun _=>B⟩|k+1,[],[],j,c,f,l,G,d,x,D,w,y,B,z=>⟨rfl,fun _=>B⟩
 |k+1,o::u,p::W,j,c,f,l,G,d,x,D,w,y,B,z=>by
  have g:=w.two;have T:=y.two;obtain⟨⟨⟨p1,O⟩,p2,P⟩,Q⟩:=z;have U:G (C<|f o.1.toNat)=G p.1.toNat:=by rw[(B.inj (f o.1.toNat) o.1.toNat g.hm ag).1 g.em,O]
  have V:G (C<|f o.2.toNat)=G p.2.toNat:=by rw[(B.inj (f o.2.toNat) o.2.toNat g.hn ag).1 g.en,P]
  have R:f o.1.toNat=f o.2.toNat↔G p.1.toNat=G p.2.toNat:=by rw[B.inj _ _ ag ag,O,P]
  unfold kK;by_cases e:f o.1.toNat=f o.2.toNat;rw[kh e,kh<|R.1 e];exact Y? M k u W j c f l G d x D w.skip y.skip B Q;have K:¬ G p.1.toNat=G p.2.toNat:=fun q=>e<|R.2 q;rw[iy e,iy K];have Y:=B.kd _ g.hm g.em;have Z:=B.kd _ g.hn g.en;have I:=B.ar _ g.hm g.em;have J:=B.ar _ g.hn g.en;rw[U]at Y I;rw[V]at Z J;rw[Y,Z];rcases hm:mt (E5 c<|G p.1.toNat).kind (E5 c<|G p.2.toNat).kind with _|t
  exact⟨rfl,fun q=>by cases q⟩;have S:=M _ _ _ T.km T.kn hm;exact Y? M k _ _ _ _ _ _ _ _ (x+1) (D+1) (w.next e S) (y.next K S) (B.aW g T w.hp.len y.hp.len U V e K t<|nA.merge _ _ _ _ I J) ((((I.W0 J).rev).app Q).mono fun _ _ q=>q.aW)
 |k+1,[],_::_,j,c,f,l,G,d,x,D,w,y,B,z=>z.elim|k+1,_::_,[],j,c,f,l,G,d,x,D,w,y,B,z=>z.elim
def nA.map{f:Nat}{G g e:Nat->Nat}(j:∀i,i<f->G (e<|g i)=G (e i)):∀{a b:X aL},nA (BR f G e) a b->b.map (nY G)=(a.map<|nY g).map fun x=>⟨x.D9,(G (e x.To.toNat):Int)⟩
 |[],[],_=>rfl|x::a,y::b,q=>by rw[zQ,zQ,zQ,nA.map j q.2.2];congr 1;simp only[nY,rI,zZ,aL.mk.injEq];obtain⟨l,k⟩:=q.2.1;exact⟨q.1.symm,by rw[j _ ag,k]⟩
 |[],_::_,q=>q.elim|_::_,[],q=>q.elim
def Bi.canon{o N z D:Nat}{E F:Int}{q c:X aY}{k A G d l:Nat->Nat}(B:Bi o q k c G l)(f:lK o z E F q k A)(h:lK N D E F c G d)(w:∀i,i<o->l i<N){v:Nat}(s:v<o):
  bX (cG c G) ((G (l v):Nat):Int)=bX (cG q k) ((k v:Nat):Int):=by
 have C:(cG c G).D6.length=N:=by simp[cG,h.len]
 have x:(cG q k).D6.length=o:=by simp[cG,f.len]
 have t:∀i,i<o->G (l<|k i)=G (l i):=fun i g=>(B.inj _ _ (f.b6.lt i g) g).1 (f.b6.idem i g);have S:oZ (cG q k) (cG c G) (fun v=>(G (l v.toNat):Int)) (InR o k):=by refine⟨?_,?_,?_,?_⟩;rintro v ⟨i,rfl,g,t⟩ a ha;obtain⟨P,M⟩:=f.nd (v:=(i:Int)) ag;rw[M]at ha;obtain⟨b,H,rfl⟩:=mem_map.1 ha;have:=(f.ar _ _<|f.nM (v:=(i:Int)) ag).ok b H;exact⟨k b.To.toNat,rfl,f.b6.lt _ ag,f.b6.idem _ ag⟩;rintro u v ⟨i,rfl,g,_⟩ ⟨j,rfl,I,_⟩ e;simp only[zZ]at e;have:=(B.inj i j g I).2 ag;omega;rintro v ⟨i,rfl,g,y⟩;have J:=h.b6.lt _<|w i g;simp only[zZ];rw[(h.nd (v:=((G (l i):Nat):Int)) ag).1,(f.nd (v:=(i:Int)) ag).1];exact(B.kd i g y).symm;rintro v ⟨i,rfl,g,y⟩;have J:=h.b6.lt _<|w i g;simp only[zZ];rw[(h.nd (v:=((G (l i):Nat):Int)) ag).2,(f.nd (v:=(i:Int)) ag).2];exact nA.map t (B.ar i g y)
 have K:=f.b6.lt v s;have O:=h.b6.lt _<|w v s;have:=S.canon f.M6 h.M6 (r:=((k v:Nat):Int)) ⟨by omega,by rw[x];omega⟩ ⟨k v,rfl,K,f.b6.idem v s⟩ (by simp only[zZ,t v s];exact⟨by omega,by rw[C];omega⟩);simp only[zZ,t v s]at this;exact this.2
structure Fr(off:Nat)(C0 C:X aY)(G:Nat->Nat):Prop where
 lt:∀i,i<off->G i<off
 ar:∀i,i<off->∀a∈(E5 C i).D8,a.To<(off:Int)
 hi:∀j,off<=j->G j=j/\E5 C j=E5 C0 j
def nr(o:X Int)(off i:Nat):Nat:=if i<o.length then((o[i]?).getD 0).toNat else off+(i-o.length)
def vR(f:cb)(x:X aU):X aY:=f.D6.map (jX 0)++x.map (jX f.D6.length)
variable{N:Nat}{D:Nat}{off:Nat}{f:X aY}{C:X aY}{d:Nat->Nat}
def qwl{E F:Int}(h:lK N D E F C G d)(g:Fr off f C G)(k:0<off)(s:off<=N):∀u∈bQ (cG C G) (rI G 0),∃i:Nat,u=(i:Int)/\i<off/\G i=i:=by
 have l:oZ (cG C G) (cG C G) id (fun u=>∃i:Nat,u=(i:Int)/\i<off/\G i=i):=by
  refine⟨?_,fun u v _ _ e=>e,fun _ _=>rfl,fun v _=>?_⟩;rintro v ⟨i,rfl,o,t⟩ a ha;rw[(h.nd (v:=(i:Int)) ag).2]at ha;obtain⟨b,j,rfl⟩:=mem_map.1 ha;have q:=(h.ar _ _<|h.nM (v:=(i:Int)) ag).ok b j;have r:=g.ar i o b j;exact⟨G b.To.toNat,rfl,g.lt _ ag,h.b6.idem _ ag⟩;have:(fun a:aL=>(⟨a.D9,id a.To⟩:aL))=id:=by funext a;rfl
  rw[this,Fh];rfl
 exact(l.O5 (cG C G).D6.length [] (rI G 0) ⟨G 0,rfl,g.lt 0 k,h.b6.idem 0 ag⟩ ca).2
def z9g{E F:Int}(h:lK N D E F C G d)(K:Fr off f C G)(h0:0<off){x:X aU}(hx:off+x.length<=N)(V:∀(j:Nat)(y:aU),x[j]? = some y->E5 f (off+j)=jX off y)(kR:∀y∈x,∀a∈y.E2,0<=a.To/\a.To<(x.length:Int)){o:X Int}(Y:o=bQ (cG C G) (rI G 0)):
  Bi (o.length+x.length) (vR (bX (cG C G)<|rI G 0) x) id C G (nr o off)/\(∀i,i<o.length+x.length->nr o off i<N)/\G (nr o off 0)=G 0/\0<o.length/\o.Nodup/\o.length<=off:=by
 have hG:(cG C G).D6.length=N:=by simp[cG,h.len]
 have hr:=h.rI (v:=0) ag;obtain⟨ok,_⟩:=H6 h.M6 (r:=rI G 0) (by rw[fU,hG];exact hr);have M:=qwl h K h0 ag;rw[<-Y]at ok M;have H:∀i,i<o.length->∃u:Nat,o[i]? = some (u:Int)/\nr o off i=u/\u<off/\G u=u:=fun i k=>by
  obtain⟨u,e,U,h2⟩:=M o[i] (kG k);have l:o[i]? = some (u:Int):=by rw[hF k,e]
  exact⟨u,l,by rw[nr,kh k,l];rfl,U,h2⟩
 have g:∀j,nr o off (o.length+j)=off+j/\G (off+j)=off+j:=fun j=>⟨by rw[nr,iy ag];omega,(K.hi _ ag).1⟩;have S:(bX (cG C G)<|rI G 0).D6=o.map (gQ (cG C G) o):=by rw[Y];rfl
 have Q:∀(i u:Nat),o[i]? = some (u:Int)->E5 (vR (bX (cG C G)<|rI G 0) x) i=jX 0 (gQ (cG C G) o (u:Int)):=fun i u e=>by have k:=(zG.1 e).1;rw[E5,vR,S,kl (by simpa using k),vz,vz,e];rfl
 have R:∀(j:Nat)(y:aU),x[j]? = some y->E5 (vR (bX (cG C G)<|rI G 0) x) (o.length+j)=jX o.length y:=fun j y e=>by rw[E5,vR,S,kq ca,vz];simp only[yA,nv,e];rfl
 have split:∀i,i<o.length+x.length->i<o.length\/∃j y,i=o.length+j/\x[j]? = some y:=fun i k=>by by_cases q:i<o.length;exact .inl q;exact .inr ⟨i-o.length,x[i-o.length],by omega,hF ag⟩
 have Z:∀(u:Nat),(u:Int)∈o->u<off->∀a∈(E5 C u).D8,rI G a.To∈o:=fun u hu O a P=>by have:=ok.W7 (u:Int) hu (nY G a) (by rw[(h.nd (v:=(u:Int)) ag).1];exact W2 P);exact this
 refine⟨⟨fun i j k hj=>?_,fun i k _=>?_,fun i k _=>?_⟩,fun i k=>?_,?_,?_,ok.seen.nd,?_⟩;simp only[id];obtain q1 |⟨a,y,rfl,B⟩:=split i k<;>obtain q2 |⟨b,z,rfl,ez⟩:=split j hj;obtain⟨u,s,l,I,A⟩:=H i q1;obtain⟨v,g1,g2,T,J⟩:=H j q2;rw[l,g2,A,J];refine⟨fun q=>by subst q;rw[s]at g1;have:=Option.some.inj g1;omega,fun q=>?_⟩;exact(getElem?_inj q1 ok.seen.nd).1 (by rw[s,g1,q]);obtain⟨u,s,l,I,A⟩:=H i q1;rw[l,A,(g b).1,(g b).2];omega;obtain⟨v,g1,g2,T,J⟩:=H j q2;rw[g2,J,(g a).1,(g a).2];omega;rw[(g a).1,(g a).2,(g b).1,(g b).2];omega;obtain q1 |⟨a,y,rfl,B⟩:=split i k;obtain⟨u,s,l,I,A⟩:=H i q1;rw[Q i u s,l,A];show(nd (cG C G) (u:Int)).R=_;rw[(h.nd (v:=(u:Int)) ag).1];rfl;rw[R a y B,(g a).1,(g a).2,(K.hi _ ag).2,V a y B];rfl;obtain q1 |⟨a,y,rfl,B⟩:=split i k;obtain⟨u,s,l,I,A⟩:=H i q1;rw[Q i u s,l,A];have es:(jX 0<|gQ (cG C G) o (u:Int)).D8=(E5 C u).D8.map fun a=>oA 0 (kL o<|nY G a):=by show((R5 (cG C G) (u:Int)).map (kL o)).map (oA 0)=_;rw[(h.nd (v:=(u:Int)) ag).2,dT,dT];rfl
 rw[es];have:(E5 C u).D8=(E5 C u).D8.map id:=(Fh _).symm;rw[this,dT];refine nA.xN fun a P=>⟨rfl,?_⟩;have hm:=Z u (zX s) I a P;have O:=Ji hm;obtain⟨w,g1,g2,T,J⟩:=H _ O;have ew:rI G a.To=(w:Int):=by have:=hF O;rw[zc,g1]at this;exact(Option.some.inj this).symm
 simp only[Function.comp,id,oA,kL,nY,Int.natCast_zero,Int.add_zero];refine⟨by omega,?_⟩;rw[zZ,g2,J];simp only[rI]at ew;omega;rw[R a y B,(g a).1,(g a).2,(K.hi _ ag).2,V a y B];refine nA.xN fun b hb=>⟨rfl,?_⟩;have ht:=kR y (zX B) b hb;simp only[oA];refine⟨by omega,?_⟩;have s:(b.To+(o.length:Int)).toNat=o.length+b.To.toNat:=by omega
 have l:(b.To+(off:Int)).toNat=off+b.To.toNat:=by omega
 rw[s,l,(g _).1];obtain q1 |⟨a,y,rfl,B⟩:=split i k;obtain⟨u,s,l,I,A⟩:=H i q1;omega;rw[(g a).1];omega;obtain⟨t,e⟩:=ok.head;rw[nr,kh (by rw[e];simp),e];simp only[Ih,gK,rI,zZ];exact h.b6.idem 0 ag;obtain⟨t,e⟩:=ok.head;rw[e];simp;exact Uy off ok.seen.nd fun v hv=>by obtain⟨i,rfl,U,_⟩:=M v hv;omega
def qxg:∀(o:X Nat)(C:X aY),o.Nodup->(∀u∈o,u<C.length)->(o.map fun u=>(E5 C u).D8.length).sum<=M5 C
 |[],C,_,_=>by simp
 |u::o,C,t,j=>by
  obtain⟨l,r⟩:=nodup_cons.1 t;have w:=j u ca;have k:C[u]? = some (E5 C u):=by rw[E5,hF w];rfl
  have x:=qxg o (C.set u ⟨-1,0,[]⟩) r fun v g=>by rw[lu];exact j v (kj _ g)
  have e:(o.map fun v=>(E5 (C.set u ⟨-1,0,[]⟩) v).D8.length)=o.map fun v=>(E5 C v).D8.length:=Wu fun v g=>by rw[E5,Ty fun q=>l (by rw[q];exact g)];rfl
  have s:=Av ⟨-1,0,[]⟩ k;rw[e]at x;simp only[zQ,Ga,zS]at s ⊢;omega
def Rj{h:dK}{ws:X Nat}(hh:oE h ws)(t:lK N D (h.E3.length:Int) (ws.length:Int) C G d)(hf:Fr off f C G)(V:0<off)(hN:off<=N){x:cb}(Q:tH h x){o:X Int}(S:o=bQ (cG C G) (rI G 0)):
  lK (o.length+x.D6.length) 0 (h.E3.length:Int) (ws.length:Int) (vR (bX (cG C G)<|rI G 0) x.D6) id (fun _=>0)/\M5 (vR (bX (cG C G)<|rI G 0) x.D6)<=M5 C+144/\(bX (cG C G)<|rI G 0).D6.length=o.length/\
  (∀y∈(bX (cG C G)<|rI G 0).D6,y.E2.length<=M5 C/\∀a∈y.E2,0<=a.To/\a.To<(o.length:Int)):=by
 have Z:(cG C G).D6.length=N:=by simp[cG,t.len]
 have hr:=t.rI (v:=0) ag;obtain⟨ok,_⟩:=H6 t.M6 (r:=rI G 0) (by rw[fU,Z];exact hr);have K:=qwl t hf V hN;rw[<-S]at ok K;have M:(bX (cG C G)<|rI G 0).D6=o.map (gQ (cG C G) o):=by rw[S];rfl
 have l:(bX (cG C G)<|rI G 0).D6.length=o.length:=by rw[M,yA]
 have fB:=t.len;have g:∀u∈o,∃i:Nat,u=(i:Int)/\i<off/\(gQ (cG C G) o u).R=(E5 C i).kind/\(gQ (cG C G) o u).E2=(E5 C i).D8.map (fun a=>kL o<|nY G a)/\C[i]? = some (E5 C i):=fun u k=>by obtain⟨i,rfl,s,O⟩:=K u k;obtain⟨n1,n2⟩:=t.nd (v:=(i:Int)) ag;refine⟨i,rfl,s,?_,?_,t.E5 ag⟩;show(nd (cG C G) (i:Int)).R=_;rw[n1];rfl;show(R5 (cG C G) (i:Int)).map (kL o)=_;rw[n2,dT];rfl
 have T:∀u∈o,∀a∈(gQ (cG C G) o u).E2,0<=a.To/\a.To<(o.length:Int):=fun u k a I=>by obtain⟨b,B,rfl⟩:=mem_map.1 (show a∈(R5 (cG C G) u).map (kL o)from I);have hm:=ok.W7 u k b<|tI.1 B;have:=Ji hm;simp only[kL];omega
 refine⟨⟨⟨fun i P=>P,fun i P=>rfl,fun i P=>rfl,fun i P=>zF _⟩,⟨fun i c w _=>?_,fun i c w U=>absurd rfl U⟩,by simp[vR,l],fun i c w=>?_,fun i c w=>?_⟩,?_,l,?_⟩;rcases yD.1 (zX w)with q |q<;>(obtain⟨y,_,rfl⟩:=mem_map.1 q;rfl);rcases yD.1 (zX w)with q |q;rw[M]at q;obtain⟨y,J,rfl⟩:=mem_map.1 q;obtain⟨u,k,rfl⟩:=mem_map.1 J;obtain⟨i,_,s,O,A,H⟩:=g u k;have I:=t.ar _ _ H;refine⟨?_,fun a hm=>?_⟩;show gZ ((gQ (cG C G) o u).E2.map (oA 0));refine T4 ?_;rw[A];have:=I.up;unfold gZ at*;rw[XN];exact this.imp fun{a b} q=>q
 obtain⟨b,B,rfl⟩:=mem_map.1 (show a∈(gQ (cG C G) o u).E2.map (oA 0)from hm);have Y:=T u k b B;rw[A]at B;obtain⟨z,hz,rfl⟩:=mem_map.1 B;have R:=I.ok z hz;simp only[oA,kL,nY]at Y ⊢;exact⟨R.1,R.2.1,by omega,by omega⟩;rw[l]at q;exact(Q.flat (zF _) q).ar;rcases yD.1 (zX w)with q |q;rw[M]at q;obtain⟨y,J,rfl⟩:=mem_map.1 q;obtain⟨u,k,rfl⟩:=mem_map.1 J;obtain⟨i,_,s,O,A,H⟩:=g u k;have:=t.kd _ _ H;rw[<-O]at this;exact this;rw[l]at q;have:=(Q.flat (zF _) q).kd;rw[hh.tl]at this;exact this;have t2:=S_ (cells:=x.D6.map<|jX o.length) fun c w=>(Q.flat (N:=o.length+x.D6.length) (zF _) w).sm
 have O4:=Q.sm.nodes;rw[yA]at t2;have t1:M5 ((bX (cG C G)<|rI G 0).D6.map (jX 0))<=M5 C:=by
  have s:=qxg (o.map Int.toNat) C (by rw[nodup_iff_pairwise_ne,XN];refine qcS (fun{a b} I B q=>?_)<|nodup_iff_pairwise_ne.1 ok.seen.nd;obtain⟨i,rfl,_⟩:=K a I;obtain⟨j,rfl,_⟩:=K b B;intro e;exact q (by simp only[zZ]at e;rw[e])) fun u k=>by obtain⟨v,hv,rfl⟩:=mem_map.1 k;obtain⟨i,rfl,s,_⟩:=K v hv;simp only[zZ];omega
  rw[dT]at s;rw[M5,M,dT,dT];refine eb (la ?_) s;congr 1;refine Wu fun u k=>?_;obtain⟨i,rfl,s,O,A,H⟩:=g u k;simp only[Function.comp,jX,A,yA,zZ]
 have e:M5 (vR (bX (cG C G)<|rI G 0) x.D6)=M5 ((bX (cG C G)<|rI G 0).D6.map (jX 0))+M5 (x.D6.map<|jX o.length):=by simp only[vR,l,M5,LY,sum_append]
 omega;intro y J;rw[M]at J;obtain⟨u,k,rfl⟩:=mem_map.1 J;refine⟨?_,T u k⟩;obtain⟨i,rfl,s,O,A,H⟩:=g u k;rw[A,yA];exact Lp H
end Go.Proofs
