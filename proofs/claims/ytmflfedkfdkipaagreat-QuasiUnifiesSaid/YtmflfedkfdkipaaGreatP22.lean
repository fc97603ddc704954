import Derived.Test.YtmflfedkfdkipaaGreatP21
set_option linter.all false
set_option maxRecDepth 20000
set_option maxHeartbeats 4000000
set_option synthInstance.maxSize 4000
set_option synthInstance.maxHeartbeats 200000
open List Go.IntKind
open Nat hiding beq_eq
namespace Go.Proofs
open Go Go.Rx Go.Vx Tryz
variable{k:Nat}
theorem PL.low{c kp:Nat}{a:X (Nat×B)}{P:PP}{h:X (Nat×B)}{nx:Nat}(p:PL c a kp P h nx){b:B}(e:k<c)(d:gt a k=some b):eK h k b:=⟨by rw[p.lo k e];exact d⟩
def bc{h:X (Nat×B)}{nx:Nat}{q:X U}{e:TypeId}[g:eK h k (.row q e)]:Go.Vx.live ⟨h,nx⟩ k 0=true:=by simp[Go.Vx.live,g.h];rfl
def cv8{a:Int}(h:0<=a/\a<=255):Q1 tb 5 3 (.int .u8 a)=some (.int .i64 a):=by simp only[Q1,un5.h,mZ.h];rw[oX af af]
def rm8(m n:Nat)(h:0<n):lI .rem .i64 (m:Int) .i64 (n:Int)=some (.int .i64 ((m%n:Nat):Int)):=by rw[NJ _ af];rfl
def PB.up{H:cR}{g:X Nat}{P:PP}{a:X az}{z e j:Nat}(b:PB H g P a z e j){f:az}(h:a[k]? = some f):∀x∈f.D9,gO x.E4:=fun x c=>by
 obtain⟨r,i,l,rfl⟩:=b.has.at_ k f h;have co:=b.has.co;have m:gD (core P.N) (r:Int):=⟨by omega,by rw[jH];omega⟩;have A:=sk co.K5 m;simp only[cU]at c;obtain⟨v,d,rfl⟩:=mem_map.1 c;simp only[jX];unfold gO;rw[fo];exact QA (co.K5 _ (vN<|A.U0 v d).2).X3
def zb7{l:X az}(b:∀f∈l,cT f 1000)(h:l.length<=1000000){n:Nat}(g:3000000<=n):∀(m i:Nat),l.length-i<m->i<=l.length->Pl l l n m (i:Int)=some true
 |0,i,hm,_=>by omega
 |m+1,i,hm,j=>by unfold Pl;by_cases a:i<l.length;obtain⟨f,d⟩:=eU a;have c:=zX d;have:=tn (b f c) (b f c) g;rw[G'.2 rfl]at this;have e:((0:Int)==0)=true:=rfl;simp only[iU a,zC,c9,d,aN,this,e,Zr,zD,kE a<|show l.length<=9223372036854775807 by omega];exact zb7 b h g m (i+1) af af;simp only[j9 a,zD,h_]
variable{n:Nat}
def z8y{l:X az}(c:∀f∈l,cT f 1000)(a:l.length<=1000000)(b:3000000<=n):im n l l=some true:=by
 have:=zb7 c a b n 0 af af;rw[zV]at this;have e:((l.length:Int) != (l.length:Int))=false:=by simp
 simp only[im,e,zD,this]
def sr(a:FK):g2 (tA tb .neq 4) (.bool a) (.bool a)=some (.bool false):=by cases a<;>kernel_rfl
def z65(F:3000000<=n)(d:X bG)(l:X rX)(hl:l.length<=9223372036854775807)(a0 U:Int)(ha:(0<=a0/\a0<=255)/\0<=U/\U<=255):dB prog 7 [.iM bM d,.iM qH l,.agg [.int .u8 a0,.int .u8 U]] (.bool true):=by
 obtain⟨g,E,hg,M⟩:=zc6 d (n:=n) af;refine w4 149 fn7 ?_;refine goN ?_;refine aM rfl (pC (qkp n d g hg) _) fn9 ?_;refine goN ?_;obtain⟨bb,hb,eC⟩:=z31 g hl (n:=3000000+l.length)<|zF _;refine aM rfl (pC (qqi _ g l bb hb) _) lh ?_;refine goN ?_;have O:∀(h:X (Nat×B))(nx:Nat),b7 prog 11 [] ⟨h,nx⟩ (fun u Y'=>u=.bool true/\Y'=⟨h,nx⟩):=fun h nx=>li (n:=n) af h nx;cases bb with
 |false=>refine eE rfl (fun _=>?_) (fun q=>by cases q);refine goN ?_;refine aM rfl (O _ _) T8 ?_;refine goN ?_;exact kD rfl rfl rfl rfl|true=>
 refine eE rfl (fun q=>by cases q) (fun _=>?_);obtain⟨pI,hf⟩:=eC rfl;refine goN ?_;refine j8 rfl (hJ rfl yw rfl).2 (z4g F M pI hf _ _) rfl rfl ?_;rintro _ _ ⟨kp,P,j,h,nx,rfl,rfl,p,b⟩;refine goN ?_;by_cases h0:j=[];subst h0;refine eE rfl (fun _=>?_) (fun q=>absurd q bF);refine goN ?_;refine aM rfl (O _ _) T8 ?_;refine goN ?_;exact kD rfl rfl rfl rfl;have hp:0<j.length:=length_pos_iff.2 h0;have DT:=b.rl;refine eE rfl (fun q=>absurd q (by simp;omega)) (fun _=>?_);refine goN ?_
 haveI:eK h 0 (.row [.int .u8 a0,.int .u8 U] 61):=p.low af rfl
 haveI:eK h 1 (.row (fK g) 27):=p.low af rfl
 refine dE [] ?_;refine cC ?_;refine aQ rfl (cV rfl rfl (FP (i:=0) (off':=0) Tf.h (aV if5.h) bc bF rfl)) ?_;refine cC ?_;refine aQ (u:=.i6 a0) rfl (ec rfl rfl (cv8 ha.1) rfl) ?_;refine cC ?_;obtain⟨S,rfl⟩:=Aq ha.1.1;obtain⟨Q,rfl⟩:=Aq ha.2.1;refine aQ (u:=.i6 ((S%j.length:Nat):Int)) rfl (xV rfl rfl (rm8 S j.length hp) rfl) ?_;refine cC ?_;refine aQ rfl (cV rfl rfl (FP (i:=1) (off':=1) Tf.h (aV if5.h) bc bF rfl)) ?_;refine cC ?_;refine aQ (u:=.i6 Q) rfl (ec rfl rfl (cv8 ha.2) rfl) ?_;refine cC ?_;refine aQ (u:=.i6 ((Q%j.length:Nat):Int)) rfl (xV rfl rfl (rm8 Q j.length hp) rfl) ?_;have hx:=mod_lt S hp;have hy:=mod_lt Q hp;generalize S%j.length=x at hx ⊢;generalize Q%j.length=y at hy ⊢;obtain⟨f,s⟩:=eU hx;obtain⟨H,C⟩:=eU hy;refine cC ?_;refine bB ⟨by kernel_rfl,trivial,?_⟩;refine goN ?_;refine j8 rfl (hJ rfl Jb rfl).2 (qyn F p (t:=[]) (by rw[Px];exact b) af) rfl rfl ?_;rintro _ _ ⟨rfl,rfl⟩;refine goN ?_;have A:=b.rd s;have G:=b.rd C;have l1:=A.nl;have l2:=G.nl;obtain⟨v,e1,u1⟩:=OX M A.ok.K5 G.ok.K5 A.ok.kg G.ok.kg A.ok.ne G.ok.ne af (fun w D=>⟨A.al w D,b.up s w D,A.ft w D⟩) (fun w D=>⟨G.al w D,b.up C w D,G.ft w D⟩) F;obtain⟨z,hwt,hws⟩:∃z,Z3 v=(z,v.isSome)/\∀u,v=some u->z=u:=by obtain _|u:=v;exact⟨_,rfl,nofun⟩;exact⟨u,rfl,fun _ e=>by cases e;rfl⟩
 rw[hwt]at e1;have SD:aB j (x:Int)=some f:=by rw[c9,s]
 have Qu:aB j (y:Int)=some H:=by rw[c9,C]
 haveI:ca nx (nx+1):=⟨rfl⟩
 haveI:Nq nx 1:=⟨by have:=p.le;rw[beq_eq];simp;omega⟩
 refine dE [(0,13),(1,13),(2,13),(3,13),(4,13),(5,13),(6,13),(7,13),(8,13),(10,13),(11,13),(12,13),(12,14)] ?_;refine cC ?_;refine dQ SD ?_;refine cC ?_;refine dQ Qu ?_;refine cC ?_;refine dN rfl (pC<|qs1 n g f H _ e1) yu ?_;refine cC ?_;refine dM ?_;refine cC ?_;refine qB ?_;refine cC ?_;refine bB ⟨by kernel_rfl,⟨(by exact Go.Vx.iW),L6,L6,xL rfl rfl rfl SD,(by exact Go.Vx.iW),L6,L6,xL rfl rfl rfl Qu,(by exact Go.Vx.iW),L6,(by exact Go.Vx.iW),(by exact Go.Vx.iW),(by exact Go.Vx.iW),trivial⟩,?_⟩;refine goN ?_;have D:∀w∈E,w≠0:=fun w D=>(M.ok w D).1;have uq:∀{f H:az}{r r':V az},px E f->px E H->UA E (Lj f H) [(0,f.D9.length)] 0 r->UA E (Lj f H) [(0,f.D9.length)] 0 r'->r=r':=fun{f H r r'} o o' h I=>UA.uniq M.gR D (UM o.K5 o'.K5 o.kg o'.kg) (by rw[Q8];have:=o.ne;omega) h I;have u2:=zdn D A.ok G.ok u1;obtain⟨q1,P1,t1,t2,B1,_⟩:=b.test M af F s C;rw[uq A.ok G.ok t2 u1]at t1;obtain⟨q2,P2,t3,t4,B2,_⟩:=B1.test M af F C s;rw[uq G.ok A.ok t4 u2]at t3;obtain⟨q3,P3,t5,t6,B3,_⟩:=B2.test M af F s s;rw[uq A.ok A.ok t6<|zdo A.ok]at t5;refine j8 rfl (hJ rfl DW rfl).2 (Qa (p.more<|.row (eY z) 39) n t1) rfl rfl ?_;rintro _ _ ⟨h1,rfl,rfl,p1⟩;refine goN ?_;refine aS (u:=.bool false) rfl (NQ rfl rfl (sr _)) ?_;refine goN ?_;refine j8 rfl (hJ rfl DW rfl).2 (Qa p1.pl n t3) rfl rfl ?_;rintro _ _ ⟨h2,rfl,rfl,p2⟩;refine goN ?_;refine aS (u:=.bool false) rfl (NQ rfl rfl (sr _)) ?_;refine goN ?_;refine j8 rfl (hJ rfl DW rfl).2 (Qa p2.pl n t5) rfl rfl ?_;rintro _ _ ⟨h3,rfl,rfl,p3⟩;refine goN ?_;refine eE rfl (fun q=>absurd q aZ) (fun _=>?_);refine goN ?_;refine aS (u:=.agg [.i6 x,.i6 y]) rfl (JM rfl ag) ?_;refine goN ?_;refine aS (u:=.agg [.i6 y,.i6 x]) rfl (JM rfl ag) ?_;refine goN ?_;refine DY rfl (fY.rK (cs:=[.i6 x,.i6 y,.i6 y,.i6 x]) (rs:=List.map mG [⟨x,y⟩,⟨y,x⟩]) bQ rfl wD.h wP.h rfl rfl rfl rfl rfl rfl rfl rfl rfl rfl rfl (by simp[aH,aW])) ?_;rintro _ _ ⟨rfl,rfl⟩;refine goN ?_;have k3:gt h3 nx=some (.row (eY z) 39):=p3.np _ _ (zN _) (p2.np _ _ (zN _) (p1.np _ _ (zN _) (by rw[aR,lr rfl]<;>rfl) ⟨nofun,nofun,nofun⟩) ⟨nofun,nofun,nofun⟩) ⟨nofun,nofun,nofun⟩;refine gL (fun m tm Y=>∃(i:Nat)(t:X az)(L:PP)(I:X (Nat×B))(J:Nat),m=2-i/\i<=2/\(v.isSome=true->t.length=i)/\PB g E L (j++t) (6*l.length) (72*l.length) (l.length+3+i)/\PL 2 [(1,.row (fK g) 27),(0,.row [.int .u8 S,.int .u8 Q] 61)] kp L I J/\gt I nx=some (.row (eY z) 39)/\nx<J/\tm=fr 149 [(8,.ptr kp 0 0),(9,.i6 j.length),(12,.iM eY j),(13,.ptr nx 0 0),(14,.bool v.isSome),(90,.iM mG [⟨x,y⟩,⟨y,x⟩]),(91,.i6 2),(92,.i6 i)]/\Y=⟨I,J⟩)
  (fun tm Y=>∃(t:X az)(L:PP)(I:X (Nat×B))(J:Nat),PB g E L (j++t) (6*l.length) (72*l.length) (l.length+5)/\PL 2 [(1,.row (fK g) 27),(0,.row [.int .u8 S,.int .u8 Q] 61)] kp L I J/\tm=fr 149 [(8,.ptr kp 0 0),(9,.i6 j.length),(12,.iM eY j)]/\Y=⟨I,J⟩) (2-0)
  ⟨0,[],P3,_,_,rfl,qq _,fun _=>rfl,by rw[Px];exact B3,p3.pl.up<|MD _,k3,by omega,rfl,rfl⟩ ?_ ?_
 rintro _ _ ⟨t,L,I,J,W,T,rfl,rfl⟩;refine goN ?_;refine j8 rfl (hJ rfl Jb rfl).2 (qyn F T W af) rfl rfl ?_;rintro _ _ ⟨rfl,rfl⟩;refine goN ?_;refine aM rfl (pC (qlw n j j true<|z8y (fun f hf=>by obtain⟨k,hk⟩:=Zc hf;have:=b.rd hk;exact⟨by have:=this.nl;omega,this.al⟩) af F) _) yt ?_;refine goN ?_;refine aM rfl (O _ _) T8 ?_;refine goN ?_;exact kD rfl rfl rfl rfl;rintro m _ _ ⟨i,t,L,I,J,rfl,hi,ht,W,T,hk,hkn,rfl,rfl⟩
 haveI:ca J (J+1):=⟨rfl⟩
 refine goN ?_;refine eE rfl (fun q=>?_) (fun q=>?_)
 ·have kZ:i<2:=by have:(i:Int)<2:=(by simpa using q);omega
  obtain⟨a,c,ga,gc,nY,Hl,hgc,oa,oc,hU⟩:∃(a c:Nat)(ga gc:az),aB [(⟨x,y⟩:fB),⟨y,x⟩] (i:Int)=some ⟨(a:Int),(c:Int)⟩/\(j++t)[a]? = some ga/\(j++t)[c]? = some gc/\px E ga/\px E gc/\UA E (Lj ga gc) [(0,ga.D9.length)] 0 v:=by
   have sK:(j++t)[x]? = some f:=by rw[mc hx];exact s
   have nX:(j++t)[y]? = some H:=by rw[mc hy];exact C
   match i,kZ with
   |0,_=>exact⟨x,y,f,H,rfl,sK,nX,A.ok,G.ok,u1⟩|1,_=>exact⟨y,x,H,f,rfl,nX,sK,G.ok,A.ok,u2⟩
  obtain⟨q,R,v1,v2,K,_⟩:=W.unify M af af af F Hl hgc;obtain rfl:=uq oa oc v2 hU;refine goN ?_;apply cK;refine goN ?_;refine c8 nY ?_;refine goN ?_;refine RS.w rfl (cV rfl rfl (FP (i:=0) (off':=0) uT.h (aV eP.h) bc bF rfl)) ?_;refine goN ?_;refine RS.w rfl (cV rfl rfl (FP (i:=1) (off':=1) uT.h (aV eP.h) bc bF rfl)) ?_;refine goN ?_;have kW:i64.wrap ((i:Int)+1)=((i+1:Nat):Int):=by rw[oX af af];rfl
  cases q with
  |none=>
   have v1:vP n L (a:Int) (c:Int)=some ((0,false),R):=v1;refine j8 rfl (hJ rfl DX rfl).2 (WT (T.more _) n v1) rfl rfl ?_;rintro _ _ ⟨Z,n4,rfl,rfl,N⟩;have k4:gt Z nx=some (.row (eY z) 39):=N.np _ _ af (by rw[aR,hF af];exact hk) ⟨nofun,nofun,nofun⟩;have l4:=N.le;refine goN ?_;refine aS (u:=.bool false) rfl (NQ rfl rfl (sr false)) ?_;refine goN ?_;refine eE rfl (fun q=>absurd q bF) (fun _=>?_);refine goN ?_;refine eE rfl (fun _=>?_) (fun q=>by cases q);refine goN ?_;have K:PB g E R (j++t) (6*l.length) (72*l.length) (l.length+3+(i+1)):=by rw[qce,Px]at K;exact K
   refine⟨2-(i+1),_,_,by omega,⟨i+1,t,R,_,_,rfl,kZ,nofun,K,N.pl,k4,by omega,rfl,rfl⟩,qq _,Gh.sub ?_⟩;rw[<-kW];(repeat refine⟨rfl,?_⟩);exact trivial
  |some u=>
   obtain rfl:=hws u rfl;have v1:vP n L (a:Int) (c:Int)=some ((((j++t).length:Int),true),R):=v1;refine j8 rfl (hJ rfl DX rfl).2 (WT (T.more _) n v1) rfl rfl ?_;rintro _ _ ⟨Z,n4,rfl,rfl,N⟩;have k4:gt Z nx=some (.row (eY z) 39):=N.np _ _ af (by rw[aR,hF af];exact hk) ⟨nofun,nofun,nofun⟩;have l4:=N.le;refine goN ?_;have K:PB g E R ((j++t)++[z]) (6*l.length) (72*l.length) (l.length+3+(i+1)):=K;have uL:((j++t)++[z])[(j++t).length]? = some z:=by simp
   refine aS (u:=.bool false) rfl (NQ rfl rfl (sr true)) ?_;refine goN ?_;refine eE rfl (fun q=>absurd q bF) (fun _=>?_);refine goN ?_;refine eE rfl (fun q=>by cases q) (fun _=>?_)
   haveI:ca n4 (n4+1):=⟨rfl⟩
   haveI:eK Z nx (.row (eY z) 39):=⟨k4⟩
   haveI:Nq n4 nx:=⟨by rw[beq_eq];simp;omega⟩
   refine goN ?_;refine j8 rfl (hJ rfl GP rfl).2 (Qe N.pl n<|K.read af F uL) rfl rfl ?_;rintro _ _ ⟨rfl,rfl⟩;refine goN ?_;rw[show(((j++t).length:Int) != i64.wrap ((j.length:Int)+(i:Int)))=false by rw[zU,ht rfl,oX af af];simp];refine goN ?_;refine aM rfl (pC (Xg n z z true<|K.eq af F uL) _) GO ?_;refine goN ?_;refine eE rfl (fun q=>absurd q bF) (fun _=>?_);refine goN ?_;refine⟨2-(i+1),_,_,by omega,⟨i+1,t++[z],R,_,_,rfl,kZ,fun _=>by rw[zU,ht rfl];rfl,by rw[<-zT];exact K,N.pl.more _,by rw[aR,hF af];exact k4,by omega,rfl,rfl⟩,qq _,Gh.sub ?_⟩;rw[<-kW];(repeat refine⟨rfl,?_⟩);exact trivial
 ·have xq:i=2:=by have:¬ (i:Int)<2:=(by simpa using q);omega
  subst xq;refine goN ?_;exact⟨_,_,⟨_,_,_,_,W,T,rfl,rfl⟩,qq _,Gh.sub<|by((repeat refine⟨rfl,?_⟩);exact trivial)⟩
structure Nj where
 E0:Int
 E1:Int
def qmq(x:Nj):X U:=[.int .u8 x.E0,.int .u8 x.E1]
def qdt(n:Nat)(c:X bG)(b:X rX)(a:Nj):V FK:=aE ((3000000<=n/\b.length<=9223372036854775807)/\(0<=a.E0/\a.E0<=255)/\0<=a.E1/\a.E1<=255) (some true)
def qhj(n:Nat)(d:X bG)(c:X rX)(a:Nj)(r:FK)(O:qdt n d c a=some r):dB prog 7 [.O false<|d.map bM,.O false<|c.map qH,.agg<|qmq a] (.bool r):=by obtain⟨b,O⟩:=bU O;obtain rfl:=sI O;exact z65 b.1.1 d c b.1.2 a.E0 a.E1 b.2
def qwi(e:X bG)(b:X rX)(a:Nj)(h:b.length<=9223372036854775807)(c:(0<=a.E0/\a.E0<=255)/\0<=a.E1/\a.E1<=255)(d:3000000<=n):qdt n e b a=some true:=lr ⟨⟨d,h⟩,c⟩
end Go.Proofs
