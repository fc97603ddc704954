import Derived.Test.YtmflfedkfdkipaaGreatP5
set_option linter.all false
open List Go.IntKind
open Nat hiding beq_eq
namespace Go.Vx
open Go Go.Rx
def zag(a:X ME)(i:Nat)(f:ME->ME):MH a i f=a.modify i f:=by induction a generalizing i with|nil=>simp[MH]|cons e a b=>cases i<;>simp[MH,b]
variable{x:Cx}{es:X ME}{vs:X MapEntry}{v:U}{l:I}
def rX.snoc(h:rX x es vs){k:U}{d:I}(g:aD x k d)(m:aD x v l)(b:Nat):rX x (es++[⟨k,v,b⟩]) (vs++[⟨d,l,b⟩]):=by
 refine⟨by simp[h.1],fun i e a=>?_⟩;rw[KV]at a ⊢;rw[<-h.1];split at a;rename_i c;simp only[c,It];exact h.2 i e a;rename_i c;simp only[c,LX];cases f:i-es.length with
 |zero=>simp[f]at a;subst a;exact⟨⟨d,l,b⟩,by simp,g,m,rfl⟩|succ j=>simp[f]at a
def rX.mod(h:rX x es vs)(j:Nat)(d:aD x v l):rX x (MH es j fun e=>{ e with val:=v }) (Y3 vs j fun e=>{ e with val:=l }):=by rw[zag,z1d];refine⟨by simp[h.1],fun i e a=>?_⟩;rw[getElem?_modify]at a ⊢;rcases c:es[i]? with _|e0;simp[c]at a;obtain⟨v0,q1,q2,q3,q4⟩:=h.2 i e0 c;rw[c]at a;simp only[Option.map_eq_map,zM,zA]at a;rw[q1];by_cases b:j=i;simp only[b,It]at a ⊢;subst a;exact⟨_,rfl,q2,d,q4⟩;simp only[b,LX]at a ⊢;subst a;exact⟨_,rfl,q2,q3,q4⟩
def rX.mono{y:Cx}(hm:Mo x.Y.nx x y)(h:rX x es vs):rX y es vs:=⟨h.1,fun j e a=>by
  obtain⟨v,q1,q2,q3,q4⟩:=h.2 j e a;exact⟨v,q1,hm.ke _ _ (aD.L5 _ _ q2) q2,hm.ke _ _ (aD.L5 _ _ q3) q3,q4⟩⟩
section
variable{T:Tb}{x:Cx}(A:jB x)
include A
def k?{m:U}{mv:I}{r:Nat}{b:Nat}(hm:aD x (.map r) mv)(e:gt x.Y.h r=some (.map es b)):∃i a,x.Z r=some i/\mv=.map (some i)/\lk x.s.h i=some (.inr (a,b))/\rX x es a/\TW x.s i=some (a,b):=by obtain⟨i,f,rfl⟩:=SX (x:=x) (by simp[live,e,B.st]) hm;obtain⟨_,j,a,c,d,g⟩:=A.ok r _ e;rw[f]at c;cases c;exact⟨i,a,f,rfl,d,g,by simp[TW,d]⟩
def qtz{r i:Nat}{a:X ME}{c b:X MapEntry}{d cl1:Nat}(g:gt x.Y.h r=some (.map es d))(j:x.Z r=some i)(k:lk x.s.h i=some (.inr (c,d)))(m:rX x a b):
  Out x ⟨x.Z,Sv x.Y r a cl1,Sa x.s i b cl1⟩:=
 Ta A g j k rfl ca fun y e f hm=>⟨i,b,e,f,m.mono hm⟩
variable{Y':Sg}
def z1a{t:TypeId}{m k r:U}{mv c:I}(h:ue T x.Y t m k v=some (r,Y'))(hm:aD x m mv)(E:aD x k c)(H:aD x v l):∃K y,Ld T x.s t mv c l=some (K,y.s)/\y.Y=Y'/\aD y r K/\Out x y:=by
 unfold ue at h;rcases e:T.G4 t with _|d;simp[e]at h;cases d with
 |map J Q=>
  cases m with
  |map q=>
   simp only[e]at h;rcases z:cK k with _|kv0;simp[z]at h;simp only[z]at h;have N:=(DL _ _ z x c).1 E;subst N;rcases n:xW T 50 J c with _|_;simp[n]at h;rcases o:plain c with _|_;simp[n,o]at h;simp only[n,o,zC]at h;rcases g:gt x.Y.h q with _|b;simp[g]at h;cases b with
   |map es L=>simp only[g]at h;obtain⟨i,P,D,rfl,F,C,G⟩:=k? A (m:=.map q) hm g;rcases p:J2 T J c es 0 with _|f;simp[p]at h;obtain⟨rfl,f1⟩|⟨j,u,w,rfl,f1,f2,f3,d,M,f4,f5,f6,f7,f8,f9⟩:=qpa 0 C p;simp only[p,zA,zB]at h;obtain⟨rfl,rfl⟩:=h;exact⟨undef,_,by simp only[Ld,e,n,o,zC,G,f1],rfl,by simp[aD],qtz A g D F<|C.snoc E H L⟩;simp only[sc]at f4 f6;simp only[p,jT,f4]at h;rcases B:cK d.key with _|kv';simp[B]at h;simp only[B]at h;have O:=(DL _ _ B x M.key).1 f7;rcases a:GL 50 kv' c with _|_;simp[a]at h;simp only[a,zC,zA,zB]at h;obtain⟨rfl,rfl⟩:=h;exact⟨undef,_,by simp only[Ld,e,n,o,zC,G,f1,jT,f6,O,a],rfl,by simp[aD],qtz A g D F<|C.mod j H⟩
   |_=>simp[g]at h
  |_=>simp[e]at h
 |_=>simp[e]at h
def qtf{t e:TypeId}{a b r:U}{c d:I}(h:gi T x.Y t e a b=some (r,Y'))(k:aD x a c)(m:aD x b d):∃v y,Sz T x.s t e c d=some (v,y.s)/\y.Y=Y'/\aD y r v/\Out x y:=by unfold gi at h;split at h;rename_i q n;cases h;obtain⟨v,y,f,g,i,j⟩:=qxp A n k m;exact⟨v,y,by simp only[Sz,f],g,i,j⟩;cases h
def z9x{g:X U}{J:X I}(j:aZ x g J){op:Op}{u:U}(h:qO T x.Y g op=some (u,Y')):oZ T x J op u Y':=by
 have fin:∀{v:I}{y:Cx},jR T J op=none->qQ T J x.s op=none->AS T J x.s op=some (v,y.s)->y.Y=Y'->aD y u v->Out x y->oZ T x J op u Y':=fun{v y} d f B C O P=>⟨v,y,qwh d f B,C,O,P⟩;unfold qO at h;cases op with
 |alloc e=>simp only at h;rcases R:T.inf e with _|q;simp[R]at h;obtain⟨a,b,z⟩:=q;simp only[R]at h;rcases Z:qN z.cells.toList with _|zu;simp[Z]at h;simp only[Z]at h;rcases F:I5 zu with _|_;simp[F]at h;simp only[F,zC,zA,zB]at h;obtain⟨rfl,rfl⟩:=h;exact fin (v:=.pointer<|some ⟨x.s.nx,0,none⟩) rfl rfl (by simp only[AS,R]) rfl (by simp only[aD];exact⟨rfl,Ss rfl ⟨_,rfl,rfl⟩⟩) (bk A ((Ax _ _ Z).2 x) F e)
 |box e o=>simp only at h;rcases S:c5 g o with _|a;simp[S]at h;simp only[S]at h;obtain⟨E,i,p⟩:=iJ j S;rcases Q:xB a with _|cs;simp[Q]at h;simp only[Q]at h;obtain⟨N,M⟩:=Ou p Q;simp only[M,zC,zA,zB]at h;obtain⟨rfl,rfl⟩:=h;exact fin (v:=.pointer<|some ⟨x.s.nx,0,none⟩) rfl rfl (by simp only[AS,i]) rfl (by simp only[aD];exact⟨rfl,Ss rfl ⟨_,rfl,rfl⟩⟩) (bk A N M e)
 |store t a b=>simp only at h;rcases D:c5 g a with _|au;simp[D]at h;rcases H:c5 g b with _|bu;simp[D,H]at h;simp only[D,H]at h;obtain⟨E,i,p⟩:=iJ j D;obtain⟨G,K,L⟩:=iJ j H;obtain⟨v,y,d,f,B,C⟩:=z3s A h p L;exact fin rfl rfl (by simp only[AS,i,K,d]) f B C
 |buildSlice t n ps=>simp only at h;rcases V:B6 g ps.toList with _|qs;simp[V]at h;simp only[V]at h;obtain⟨vs,d,f⟩:=VK j V;obtain⟨v,y,B,C,O,P⟩:=qs3 A h f;exact fin rfl rfl (by simp only[AS,d,B]) C O P
 |makeSlice t a b=>simp only at h;rcases D:c5 g a with _|au;simp[D]at h;rcases H:c5 g b with _|bu;simp[D,H]at h;simp only[D,H]at h;obtain⟨E,i,p⟩:=iJ j D;obtain⟨G,K,L⟩:=iJ j H;obtain⟨v,y,d,f,B,C⟩:=z62 A h p L;exact fin rfl rfl (by simp only[AS,i,K,d]) f B C
 |makeMap t r=>
  cases r with
  |none=>simp only[zA,zB]at h;obtain⟨rfl,rfl⟩:=h;exact fin (v:=.map<|some x.s.nx) rfl rfl (by simp only[AS]) rfl (by simp only[aD];exact⟨rfl,Ss rfl ⟨_,rfl,rfl⟩⟩) (qql A (.map [] 0) (.inr ([],0)) fun y d f hm=>⟨_,[],d,f,rfl,by simp⟩)
  |some r=>simp at h
 |mapUpdate t m k v=>simp only at h;rcases hm:c5 g m with _|mu;simp[hm]at h;rcases F:c5 g k with _|ku;simp[hm,F]at h;rcases W:c5 g v with _|vu;simp[hm,F,W]at h;simp only[hm,F,W]at h;obtain⟨E,i,p⟩:=iJ j hm;obtain⟨G,K,L⟩:=iJ j F;obtain⟨vc,N,M⟩:=iJ j W;obtain⟨w,y,d,f,B,C⟩:=z1a A h p L M;exact fin rfl rfl (by simp only[AS,i,K,N,d]) f B C
 |call c=>
  simp only at h;obtain⟨callee,args,ats⟩:=c;cases callee with
  |builtin b=>
   have two:∀{us:X U}{a b:U},pI g args.toList=some us->us=[a,b]->∃E G,oS J args.toList=some [E,G]/\aD x a E/\aD x b G:=fun{us a b} d f=>by subst f;obtain⟨vs,i,p⟩:=Bp j d;obtain⟨E,tZ,rfl,r1,r2⟩:=p.inv;obtain⟨G,vs'',rfl,r3,r4⟩:=r2.inv;rw[r4.L7]at i;exact⟨E,G,i,r1,r3⟩
   cases b with
   |append=>simp only at h;split at h;rename_i a b t xt d f;obtain⟨E,G,e1,r1,r2⟩:=two d rfl;obtain⟨w,y,q1,q2,q3,q4⟩:=qtf A h r1 r2;exact fin (by simp only[jR]) (by simp only[qQ]) (by simp only[AS,e1,f,q1]) q2 q3 q4;cases h
   |_=>simp at h
  |_=>simp at h
 |_=>simp at h
def Df{a:X U}{e:X I}(d:aZ x a e){op:Op}{u:U}(h:bH T x.Y a op=some (u,Y')):oZ T x e op u Y':=by
 unfold bH at h;cases b:iQ T x.Y a op with
 |some v=>simp only[b,zA,zB]at h;obtain⟨rfl,rfl⟩:=h;exact z6p A d b
 |none=>simp only[b]at h;rcases c:qR T x.Y a op with _|v;simp only[c]at h;exact z9x A d h;simp only[c,zA,zB]at h;obtain⟨rfl,rfl⟩:=h;exact qwx A d c
omit A in
def qve{d:X U}{n:X I}(m:aZ x d n){op:Op}{f:FuncId}{args:X U}(h:kM T d op=some (f,args)):∃vs,dd T n op=some (f,vs)/\aZ x args vs:=by
 unfold kM at h;cases op with
 |call c=>
  simp only at h;obtain⟨callee,s,t⟩:=c;cases callee with
  |value o=>
   simp only at h;rcases b:c5 d o with _|a;simp[b]at h;obtain⟨D,r,k⟩:=iJ m b;cases a with
   |fn fn first cap=>
    cases fn with
    |func g=>simp only[b]at h;simp only[aD]at k;obtain⟨p,q,rfl,y,z,B,C⟩:=k;rcases e:T.fn g with _|fd;simp[e]at h;simp only[e]at h;rcases j:fd.body.isSome with _|_;simp[j]at h;simp only[j,zC]at h;rcases i:pI d s.toList with _|us;simp[i]at h;simp only[i,zA,zB]at h;obtain⟨rfl,rfl⟩:=h;obtain⟨vs,u,w⟩:=Bp m i;exact⟨p++vs++q,by simp only[dd,r,e,j,zC,u],((show aZ x first p from⟨y,z⟩).append w).append ⟨B,C⟩⟩
    |_=>simp[b]at h
   |_=>simp[b]at h
  |_=>simp at h
 |_=>simp at h
end
end Go.Vx
