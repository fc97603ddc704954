import Derived.LaidEqlPtr
import Derived.Shelf.SlSortCmp.WholeK
import Derived.Test.YtmflfedkfdkipaaGreatP18
set_option linter.all false
set_option maxRecDepth 100000
set_option maxHeartbeats 4000000
set_option synthInstance.maxSize 4000
set_option synthInstance.maxHeartbeats 200000
open List Go.IntKind
open Nat hiding beq_eq
namespace Go.Vx
open Go Go.Rx
section
variable{P:Ib}{T:Tb}(c:j0 P T)
include c
theorem z3e{i h:TypeId}{n:Nat}(f:T.G4 i=some (.pointer h))(g:cC T h=some (n+1))(d:Nat){a b:Addr}{j k:Ie I}{o tb:TypeId}(w:Jb)(l:w.heap[a.block]? = some (.cells j o (0,0)))(m:w.heap[b.block]? = some (.cells k tb (0,0))):
  (Op.equalIn (d+1) i (.pointer<|some a)<|.pointer<|some b).run P w=.ok (decide (a=b)) w:=by by_cases e:a=b;subst e;simp[Op.equalIn,iI c w f,qS c w g,run_sameAddr_same];simp[Op.equalIn,iI c w f,qS c w g,run_sameAddr_other w e l m,e]
theorem z3d{e d:TypeId}{l:Nat}(j:T.G4 e=some (.pointer d))(k:cC T d=some (l+1)){a b:Addr}{f g:Ie I}{m tb:TypeId}(w:Jb)(h:w.heap[a.block]? = some (.cells f m (0,0)))(i:w.heap[b.block]? = some (.cells g tb (0,0))):
  (Op.equal e (.pointer<|some a)<|.pointer<|some b).run P w=.ok (decide (a=b)) w:=z3e c j k 9999 w h i
end
variable{x:Cx}{k:Nat}{l:X U}{e:TypeId}
theorem Z2(n:jB x){m:Nm}{w:Jb}(b:Fits m x.s w){i:Nat}(d:gt x.Y.h k=some (.row l e))(f:x.Z k=some i):m.sh i=0/\∃c,w.heap[m.I4 i]? = some (.cells c e (0,0)):=by obtain⟨_,_,j,o,a,g,_⟩:=n.ok k _ d;rw[f]at a;cases a;have:=b.ok i _ g;simp only[wX,wW]at this;exact⟨this.1,_,this.2⟩
variable{e':TypeId}
theorem z93(f:jB x){m:Nm}{w:Jb}(q:Fits m x.s w){i a b:Nat}{u:X U}(g:gt x.Y.h k=some (.row l e))(d:x.Z k=some i)(o:gt x.Y.h a=some (.row u e'))(c:x.Z a=some b):(m.I4 i=m.I4 b)↔k=a:=by constructor;intro h;obtain⟨_,_,j,r,n,t,_⟩:=f.ok k _ g;rw[d]at n;cases n;obtain⟨_,_,y,z,p,v,_⟩:=f.ok a _ o;rw[c]at p;cases p;by_cases e:i=b;subst e;exact f.inj k a _ _ i g o d c;exact absurd h<|q.inj i b _ _ t v e rfl;rintro rfl;rw[d]at c;cases c;rfl
theorem Sr{v:I}(c:gt x.Y.h k=some (.row l e))(a:aD x (.ptr k 0 0) v):∃i,x.Z k=some i/\v=.pointer (some ⟨i,0,none⟩):=by simp only[aD]at a;obtain⟨_,b⟩:=a.2.2 _ c;exact b rfl
section
variable{C:PG}{T:Tb}(d:j0 C.prog T)
include d
theorem fI.peq{Y:Sg}{s:X U}{o:Oper}{b:BinOp}{t ty D:TypeId}{sz f:Nat}{v y:Qo}{l':X U}(A:o.op=.binOp b t v y ty)(R:b=.eql\/b=.neq)(V:T.G4 t=some (.pointer D))(Z:cC T D=some (sz+1))(hx:c5 s v=some (.ptr k 0 0))(hy:c5 s y=some (.ptr f 0 0))(q:gt Y.h k=some (.row l e))(r:gt Y.h f=some (.row l' e')):
  fI C Y s o (fun u I=>u=.bool (if b=.eql then Nat.beq k f else !Nat.beq k f)/\I=Y):=fun F x tv m w a next Q M st hG W ro eN=>by
 subst M;obtain⟨vx,ex,rx⟩:=iJ st.e hx;obtain⟨vy,L,ry⟩:=iJ st.e hy;obtain⟨i,z,rfl⟩:=Sr q rx;obtain⟨g,B,rfl⟩:=Sr r ry;have p:=st.fits.fits;obtain⟨s1,c1,N⟩:=Z2 st.h p q z;obtain⟨s2,c2,O⟩:=Z2 st.h p r B;have E:decide ((⟨m.I4 i,m.sh i+0,none⟩:Addr)=⟨m.I4 g,m.sh g+0,none⟩)=Nat.beq k f:=by rw[s1,s2,beq_eq];have:=z93 st.h p q z r B;by_cases e:k=f;rw[jl e,this.2 e];simp;have P:m.I4 i≠m.I4 g:=fun h=>e<|this.1 h;rw[eJ e];simp[P]
 have H:a.eval v=.pointer (some ⟨m.I4 i,m.sh i+0,none⟩):=by have j:=(st.act.F8 ex).at;simp only[G0]at j;exact j.symm
 have G:a.eval y=.pointer (some ⟨m.I4 g,m.sh g+0,none⟩):=by have j:=(st.act.F8 L).at;simp only[G0]at j;exact j.symm
 have n:=z3d d V Z (a:=⟨m.I4 i,m.sh i+0,none⟩) (b:=⟨m.I4 g,m.sh g+0,none⟩) w N O;rw[E]at n;simp only[ek]at n;have K:(execOp a.eval o).run C.prog w=.ok (.value<|.bool<|if b=.eql then Nat.beq k f else !Nat.beq k f) w:=by simp only[execOp,A,H,G];obtain rfl |rfl:=R;simp[eqGuard,binOp,n];simp[eqGuard,binOp,n]
 refine v7 (by rw[A];intro c S;cases S) ?_;unfold Oper.wp;rw[K];have J:=bJ.refl st.fits;exact W _ x (DD tv o.dst<|.bool<|if b=.eql then Nat.beq k f else !Nat.beq k f) m w _ ⟨rfl,rfl⟩ ⟨st.h,st.fr,NA st.e (by simp[aD]) _,st.fits,st.act.put (PT fun _=>by simp[G0]) o.dst⟩ J (Ke.refl _ _) (zF _) (FD _ _ _)
end
def pE(e:Nat×U×Nat):ME:=⟨.ptr e.1 0 0,e.2.1,e.2.2⟩
def xF(k:Nat):X (Nat×U×Nat)->A U
 |[]=>none|e::a=>cond (Nat.beq e.1 k) (some e.2.1) (xF k a)
def c_(h:X (Nat×B))(k:Nat):Prop:=∃l e,gt h k=some (.row l e)
theorem rX.qX{e:ME}{c:X ME}{a:X MapEntry}(h:rX x (e::c) a):∃v g,a=v::g/\aD x e.key v.key/\aD x e.val v.val/\v.born=e.born/\rX x c g:=by obtain⟨d,f⟩:=h;obtain _|⟨v,a⟩:=a;simp at d;obtain⟨p,b,j,m,n⟩:=f 0 e rfl;simp at b;subst b;refine⟨v,a,rfl,j,m,n,by simpa using d,fun i e o=>?_⟩;have:=f (i+1) e (by simpa using o);simpa using this
section
variable{P:Ib}{T:Tb}(c:j0 P T){x:Cx}(d:jB x){m:Nm}{w:Jb}(f:Fits m x.s w){g o:TypeId}{sz:Nat}(p:T.G4 g=some (.pointer o))(q:cC T o=some (sz+1))
include c d f p q
theorem qv8{k n:Nat}(hk:c_ x.Y.h k)(F:x.Z k=some n):∀(A:X (Nat×U×Nat))(s:X MapEntry)(i:Nat),(∀e∈A,c_ x.Y.h e.1)->rX x (A.map pE) s->
  ∃r,(Instr.findAsking g (.pointer<|some ⟨m.I4 n,m.sh n,none⟩) (s.map<|jP m) i).run P w=.ok r w/\(xF k A=none->r=none)/\∀u,xF k A=some u->∃j v,v∈s/\r=some (j,G0 m v.val)/\aD x u v.val
 |[],s,i,_,G=>by
  have:s=[]:=by have:=G.1;simpa using this.symm
  subst this;exact⟨none,by simp[Instr.findAsking],fun _=>rfl,fun u y=>by simp[xF]at y⟩
 |e::A,s,i,K,G=>by
  obtain⟨v,s,rfl,Q,H,_,M⟩:=rX.qX G;obtain⟨l,t,E⟩:=hk;obtain⟨l',t',I⟩:=K e ca;obtain⟨z,J,nI⟩:=Sr I Q;obtain⟨s1,c1,S⟩:=Z2 d f E F;obtain⟨s2,c2,V⟩:=Z2 d f I J;have C:=z3d c p q (a:=⟨m.I4 n,m.sh n,none⟩) (b:=⟨m.I4 z,m.sh z+0,none⟩) w S V;have O:decide ((⟨m.I4 n,m.sh n,none⟩:Addr)=⟨m.I4 z,m.sh z+0,none⟩)=Nat.beq e.1 k:=by rw[s1,s2,beq_eq];have:=z93 d f E F I J;by_cases D:k=e.1;rw[jl (show e.1=k from D.symm),this.2 D];simp;have W:m.I4 n≠m.I4 z:=fun h=>D<|this.1 h;rw[eJ<|show ¬ e.1=k from fun h=>D h.symm];simp[W]
  rw[O]at C;obtain⟨r,g1,g2,R⟩:=qv8 ⟨l,t,E⟩ F A s (i+1) (fun e N=>K e<|by simp[N]) M;have L:G0 m v.key=.pointer (some ⟨m.I4 z,m.sh z+0,none⟩):=by simp[nI,G0]
  cases B:Nat.beq e.1 k with|true=>rw[B]at C;refine⟨some (i,G0 m v.val),?_,fun h=>?_,fun u y=>?_⟩;simp only[zQ,Instr.findAsking,jP,L,zK,C,zJ,It,zL];simp[xF,B]at h;simp only[xF,B,zC,zA]at y;subst y;exact⟨i,v,by simp,rfl,H⟩|false=>rw[B]at C;refine⟨r,?_,fun h=>?_,fun u y=>?_⟩;simp only[zQ,Instr.findAsking,jP,L,zK,C,zJ,XM,LX];exact g1;simp only[xF,B,zD]at h;exact g2 h;simp only[xF,B,zD]at y;obtain⟨j,v',q1,q2,q3⟩:=R u y;exact⟨j,v',by simp[q1],q2,q3⟩
theorem qrp{n:Nat}(A:c_ x.Y.h k)(z:x.Z k=some n)(b:X (Nat×U×Nat))(a:X MapEntry)(y:∀e∈b,c_ x.Y.h e.1)(B:rX x (b.map pE) a):
  ∃r,(Instr.findKey g (.pointer<|some ⟨m.I4 n,m.sh n,none⟩)<|a.map<|jP m).run P w=.ok r w/\(xF k b=none->r=none)/\∀u,xF k b=some u->∃j v,v∈a/\r=some (j,G0 m v.val)/\aD x u v.val:=by
 obtain⟨r,i,s,t⟩:=qv8 c d f p q A z b a 0 y B;refine⟨r,?_,s,t⟩;unfold Instr.findKey;simp only[zK,iI c w p,zJ];cases a with
 |nil=>simp only[gg,Instr.findAsking,zL,Result.ok.injEq,X1]at i;subst i;simp[Instr.findNow]|cons v a=>simp only[zQ,Instr.findNow,Instr.sameNow];exact i
omit d f q in
theorem qj3(b:Rl)(n:Nat)(v:I):(Instr.checkKey b (n+1) g v).run P w=.ok () w:=by simp[Instr.checkKey,iI c w p]
end
section
variable{C:PG}{T:Tb}(d:j0 C.prog T)
include d
variable{Y:Sg}{tm:X U}{o:Oper}{t:TypeId}{sz:Nat}{f:Qo}
theorem fI.nO{kt P te:TypeId}{r a' b' O:Nat}{z:I}{zu:U}{J:Qo}{ok:Rl}{g:X (Nat×U×Nat)}(E:o.op=.lookup t f J ok)(S:T.G4 t=some (.map kt P))(D:T.G4 kt=some (.pointer te))(hs:cC T te=some (sz+1))
  (Z:T.inf P=some (a',b',z)) (H:jL z=some zu) (hx:c5 tm f=some (.map r)) (hy:c5 tm J=some (.ptr k 0 0)) (hg:gt Y.h r=some (.map (g.map pE) O)) (dP:c_ Y.h k) (B:∀e∈g,c_ Y.h e.1):
  fI C Y tm o (fun u Y'=>u=(match xF k g with |some v=>cond ok (.a7 [v,.bool true]) v |none=>cond ok (.a7 [zu,.bool false]) zu)/\Y'=Y):=fun F x tv m w a next Q fF st hG hn ro eN=>by
 subst fF;obtain⟨vx,ex,rx⟩:=iJ st.e hx;obtain⟨vy,ey,ry⟩:=iJ st.e hy;obtain⟨l0,e0,L⟩:=dP;obtain⟨i0,O7,rfl⟩:=Sr L ry;obtain⟨i,n,h1,rfl,h3,h4,w7⟩:=k? (m:=.map r) st.h rx hg;have V:=st.fits.fits;have N:a.eval f=.map (some<|m.I4 i):=by have q:=(st.act.F8 ex).at;simp only[G0]at q;exact q.symm
 have M:a.eval J=.pointer (some ⟨m.I4 i0,m.sh i0,none⟩):=by have q:=(st.act.F8 ey).at;simp only[G0,ek]at q;exact q.symm
 have K:w.heap[m.I4 i]? = some (.map (n.map<|jP m).toArray O):=V.ok i _ h3;have cQ:=QW st.fits w7;obtain⟨r,g1,g2,g3⟩:=qrp d st.h V D hs ⟨l0,e0,L⟩ O7 g n B h4;obtain⟨G,A⟩:=NE d m w Z;have yH:=(TX _ _ H).2 x;have key:∃v,(execOp a.eval o).run C.prog w=.ok (.value<|G0 m v) w/\(∀b,aJ x.s.nx m b->G0 b v=G0 m v)/\aD x (match xF k g with |some v=>cond ok (.a7 [v,.bool true]) v |none=>cond ok (.a7 [zu,.bool false]) zu) v:=by
  cases W:xF k g with
  |none=>have:=g2 W;subst this;refine⟨cond ok (.tuple #[z,.bool false]) z,?_,fun b p=>?_,?_⟩;simp only[execOp,E,N,M,Instr.lookup,zK,iI d w S,zJ,Rx.run_getObj_map K,qj3 d D,g1,zL,G];cases ok;simp[A];simp[G0,aF,A];have q1:=(NE d b w Z).2;cases ok;simp only[zD];rw[q1,A];simp only[zC,G0,uS,aF];rw[q1,A];cases ok;exact yH;simp only[zC,aD];exact⟨_,rfl,by simp[c7,aD];exact yH,rfl⟩|some u=>
   obtain⟨j,v,q1,rfl,q3⟩:=g3 u W;have y:∀b,aJ x.s.nx m b->G0 b v.val=G0 m v.val:=fun b p=>by have h5:=cQ b p;have R:=map_inj_left.1 h5 v q1;simp only[jP,MapEntry.mk.injEq]at R;exact R.2.1
   refine⟨cond ok (.tuple #[v.val,.bool true]) v.val,?_,fun b p=>?_,?_⟩;simp only[execOp,E,N,M,Instr.lookup,zK,iI d w S,zJ,Rx.run_getObj_map K,qj3 d D,g1,zL];cases ok;simp;simp[G0,aF];cases ok;exact y b p;simp only[zC,G0,uS,aF];rw[y b p];cases ok;exact q3;simp only[zC,aD];exact⟨_,rfl,by simp[c7,aD];exact q3,rfl⟩
 obtain⟨v,k1,k2,k3⟩:=key;refine v7 (by rw[E];intro c hc;cases hc) ?_;unfold Oper.wp;rw[k1];exact hn _ x (DD tv o.dst v) m w _ ⟨rfl,rfl⟩ ⟨st.h,st.fr,NA st.e k3 _,st.fits,st.act.put k2 o.dst⟩ (bJ.refl st.fits) (Ke.refl _ _) (zF _) (FD _ _ _)
theorem fI.pins{R et V:TypeId}{r cl:Nat}{v:U}{y vo:Qo}{es:X (Nat×U×Nat)}(g:o.op=.mapUpdate t f y vo\/o.op=.insert t f y vo)(hd:T.G4 t=some (.map R et))(O:T.G4 R=some (.pointer V))(hs:cC T V=some (sz+1))
  (hx:c5 tm f=some (.map r)) (hy:c5 tm y=some (.ptr k 0 0)) (hv:c5 tm vo=some v) (N:gt Y.h r=some (.map (es.map pE) cl)) (dP:c_ Y.h k) (B:∀e∈es,c_ Y.h e.1) (hp:xF k es=none):
  fI C Y tm o (fun u Y'=>u=.L2/\Y'=⟨ug Y.h r<|.map ((es++[(k,v,cl)]).map pE)<|cl+1,Y.nx⟩):=fun F x tv m w a next Q fF st hG hn ro eN=>by
 subst fF;obtain⟨vx,ex,rx⟩:=iJ st.e hx;obtain⟨vy,J,S⟩:=iJ st.e hy;obtain⟨W,ev,rv⟩:=iJ st.e hv;have G:=S;obtain⟨l0,e0,H⟩:=dP;obtain⟨n,O7,rfl⟩:=Sr H S;obtain⟨i,es',h1,rfl,K,L,w7⟩:=k? (m:=.map r) st.h rx N;have M:=st.fits.fits;have WE:a.eval f=.map (some<|m.I4 i):=by have p:=(st.act.F8 ex).at;simp only[G0]at p;exact p.symm
 have I:a.eval y=.pointer (some ⟨m.I4 n,m.sh n,none⟩):=by have p:=(st.act.F8 J).at;simp only[G0,ek]at p;exact p.symm
 have CW:w.heap[m.I4 i]? = some (.map (es'.map<|jP m).toArray cl):=M.ok i _ K;have cQ:=QW st.fits w7;obtain⟨r',g1,g2,_⟩:=qrp d st.h M O hs ⟨l0,e0,H⟩ O7 es es' B L;have:=g2 hp;subst this;obtain⟨b,e1,z⟩:=Zy (P:=C.prog) st.fits w7 (es':=es'++[{ key:=.pointer<|some ⟨n,0,none⟩,val:=W,born:=cl }]) (cl':=cl+1) (ces:=es'.map (jP m)++[{ key:=.pointer<|some ⟨m.I4 n,m.sh n,none⟩,val:=a.eval vo,born:=cl }]) (fun D A=>by have q1:=(st.act.F8 J) D A;have q2:=(st.act.F8 ev) D A;rw[I]at q1;simp only[LY,zQ,gg,cQ D A,jP,q1,q2]);have cT:(execOp a.eval o).run C.prog w=.ok .skip b:=by
  have q:(Instr.mapUpdate t (a.eval f) (a.eval y)<|a.eval vo).run C.prog w=.ok () b:=by simp only[WE,I,Instr.mapUpdate,zK,iI d w hd,zJ,Rx.run_getObj_map CW,qj3 d O,g1];rw[<-e1];simp
  obtain g |g:=g;simp only[execOp,g,zK,q,zJ,zL];simp only[execOp,g,zK,q,zJ,zL]
 have j:=qtz st.h N h1 K (L.snoc (k:=.ptr k 0 0) (v:=v) G rv cl) (cl1:=cl+1);refine v7 (by obtain g |g:=g<;>(rw[g];intro c hc;cases hc)) ?_;unfold Oper.wp;rw[cT];have em:(es.map pE++[⟨.ptr k 0 0,v,cl⟩])=(es++[(k,v,cl)]).map pE:=by simp[pE]
 rw[em]at j;exact hn _ ⟨x.Z,Sv x.Y r ((es++[(k,v,cl)]).map pE)<|cl+1,Sa x.s i (es'++[{ key:=.pointer<|some ⟨n,0,none⟩,val:=W,born:=cl }])<|cl+1⟩ (DD tv o.dst undef) m b _ ⟨rfl,rfl⟩
  ⟨j.h,j.fr F st.fr,NA (j.mo.ke.E st.e.L5 st.e) (by simp[aD]) _,z.fits,(st.act.ext z.agree z.nx).put (PT fun _=>by simp[undef,G0,aF]) o.dst⟩ z j.mo.ke j.mo.nx (FD _ _ _)
theorem fI.BA{K st off:Nat}{L:Qo}(ho:o.op=.slice t f (some L) none none)(hd:T.G4 t=some (.slice e))(hs:cC T e=some (sz+1))(hx:c5 tm f=some (.vl K st off 1))(hl:c5 tm L=some (.int .i64 1))
  (D:gt Y.h K=some (.vec l e' (sz+1) st)) (R:(off+1)*(sz+1)<=l.length):
  fI C Y tm o (fun u O=>(u=.vl K (st+1) 0 0/\O=⟨ug Y.h K<|.vec [] e' (sz+1)<|st+1,Y.nx⟩)\/(u=.O true []/\O=Y)):=fun F x tv m w a next Q fF g hG hn ro eN=>by
 subst fF;obtain⟨vx,ex,rx⟩:=iJ g.e hx;obtain⟨vl,el,rl⟩:=iJ g.e hl;simp only[aD]at rl;subst rl;simp only[aD]at rx;obtain⟨_,hK,h0⟩:=rx;obtain⟨l2,V,sz2,J,M⟩:=(h0 _ D).2 rfl;cases J;obtain⟨_,wt⟩:=g.h.ok K _ D;obtain⟨_,_,hB⟩:=wt;obtain⟨oo,_⟩|⟨i,G,iL,N,hE⟩:=hB;rw[oo]at R;simp at R;rw[iL]at M;simp only[IV]at M;obtain⟨_,zz,_⟩|rfl:=M;omega;have hf:=g.fits.fits;obtain⟨pre,n,lH,lP,gD⟩:=(hf.ok i _ N:wW m i _ e' w (sz+1+2));have sN:G.length=l.length:=hE.2.symm;have WD:1<=m.cp i-off:=by
  have r:(off+1)*(sz+1)<=m.cp i*(sz+1):=by omega
  have:=TH r ag;omega
 have zx:cM m i (cP+off)=m.cp i-off:=by
  have h:¬ cP+off<cP:=by omega
  simp[cM,cJ,h]
 have WE:a.eval f=.slice (some ⟨m.I4 i,m.sh i+off*(sz+1),none⟩) 1 (m.cp i-off):=by have z:=(g.act.F8 ex).at;simp only[G0,zx]at z;exact z.symm
 have qF:a.eval L=.int .i64 1:=by have z:=(g.act.F8 el).at;simp only[G0]at z;exact z.symm
 have J:nQ 1 1 (some<|.int .i64 1) none=some (1,1,1):=by decide
 obtain⟨S,_⟩:=Tz (P:=C.prog) (isS:=true) m w J WD;simp only[zM,uv,G0,KF,XM,LX]at S;have cT:(execOp a.eval o).run C.prog w=.ok (.value<|.slice (if m.cp i-off=1 then some ⟨m.I4 i,m.sh i+off*(sz+1),none⟩else some ⟨m.I4 i,m.sh i+off*(sz+1)+1*(sz+1),none⟩) 0<|m.cp i-off-1) w:=by simp only[execOp,ho,WE,zM,uv,qF,Instr.sliceAt,zK,iI d w hd,zJ,Instr.slice,S,qS d w hs,zL,H5]
 refine v7 (by rw[ho];intro c hc;cases hc) ?_;unfold Oper.wp;rw[cT];have KW:=g.h.bd i _ N;by_cases I:m.cp i-off=1;rw[kh I,I];exact hn (.O true []) x (DD tv o.dst<|.slice (some ⟨i,off*(sz+1),none⟩) 0 0) m w _ (.inr ⟨rfl,rfl⟩) ⟨g.h,g.fr,NA g.e (by simp only[aD];exact .inr ⟨i,off*(sz+1),0,rfl,(fun _=>⟨rfl,by simp[cP]⟩),.inl trivial⟩) _,g.fits,g.act.put (fun m' v=>by obtain⟨q1,q2,_⟩:=v i KW;simp[G0,q1,q2,cM,cP]) o.dst⟩ (bJ.refl g.fits) (Ke.refl _ _) (zF _)<|FD _ _ _;rw[iy I];have A:bJ m x.s w (m.set x.s.nx (m.I4 i) (m.sh i+off*(sz+1)+1*(sz+1))<|m.cp i-off-1) ⟨(x.s.nx,.inl ([],e',sz+1+2))::rm x.s.h i,x.s.nx+1⟩ w:=bJ.rename g.fits N rfl _ _ (fun _ _=>rfl) rfl rfl rfl rfl (zF _) fun m' v=>by
  obtain⟨vL,BQ,S0⟩:=v x.s.nx<|zN _;obtain⟨e1,V,H⟩:=DN m x.s.nx (m.I4 i) (m.sh i+off*(sz+1)+1*(sz+1))<|m.cp i-off-1;have qD:(pre++aF m G++n).length=m.sh i+m.cp i*(sz+1):=by simp[lP];omega
  have W:m.cp i*(sz+1)=off*(sz+1)+1*(sz+1)+(m.cp i-off-1)*(sz+1):=by rw[<-dR,<-dR];congr 1;omega
  refine⟨(pre++aF m G++n).take (m.sh i+off*(sz+1)+1*(sz+1)),(pre++aF m G++n).drop (m.sh i+off*(sz+1)+1*(sz+1)),?_,?_,?_⟩;rw[vL,e1,lH];simp[aF];rw[BQ,V,Wz,qD];omega;rw[S0,H,oy,qD];simp only[zS];omega
 have q:=Bf g.h D (l1:=[]) (some x.s.nx) ⟨(x.s.nx,.inl ([],e',sz+1+2))::rm x.s.h i,x.s.nx+1⟩ (fun j b p cA=>by
   have r:x.s.nx≠j:=by have:=g.h.bd j b p;omega
   have B:i≠j:=fun h=>cA (by rw[iL,h]);simp only[mD,r,LX,Kt,B];exact p)
  (fun j p=>by cases p;exact .inr<|zF _)
  (fun j b p=>by simp only[mD]at p;by_cases r:x.s.nx=j;show j<x.s.nx+1;omega;simp only[r,LX,Kt]at p;by_cases B:i=j;simp[B]at p;simp only[B,LX]at p;have:=g.h.bd j b p;show j<x.s.nx+1;omega)
  rfl (fun y _ _=>.inr ⟨x.s.nx,[],rfl,by simp[mD],aZ.nil _⟩)
 exact hn (.vl K (st+1) 0 0) ⟨mO x.Z K<|some x.s.nx,⟨ug x.Y.h K<|.vec [] e' (sz+1)<|st+1,x.Y.nx⟩,⟨(x.s.nx,.inl ([],e',sz+1+2))::rm x.s.h i,x.s.nx+1⟩⟩ (DD tv o.dst<|.slice (some ⟨x.s.nx,0,none⟩) 0 cP) _ w _ (.inl ⟨rfl,rfl⟩)
  ⟨q.h,q.fr F g.fr,NA (q.mo.ke.E g.e.L5 g.e) (Aw g.h D rfl (.inr ca)) _,A.fits,(g.act.ext A.agree A.nx).put (Br (zN _) fun m' v=>by rw[Uj];obtain⟨_,_,H⟩:=DN m x.s.nx (m.I4 i) (m.sh i+off*(sz+1)+1*(sz+1))<|m.cp i-off-1;exact(v x.s.nx<|zN _).2.2.trans H) o.dst⟩ A q.mo.ke q.mo.nx (FD _ _ _)
end
def Kw(p:Nat->Prop):X Nat->Prop
 |[]=>True|i::l=>p i/\Kw p l
theorem Kw.mem{p:Nat->Prop}:∀{l:X Nat},Kw p l->∀i∈l,p i
 |j::l,h,i,a=>by obtain rfl |a:=zI.1 a;exact h.1;exact Kw.mem h.2 i a
def z_(C:PG)(T:Tb)(g:Ie Oper)(d n:Nat)(l:X (Nat×U))(Y:Sg)(K:X (Nat×U)->Sg->Prop)(i:Nat): Prop :=
  ∃o,nth g.toList i=some o/\c9 g.toList (fr n l) o=some true/\i_ n o.dst=true/\ ((∃u c,bH T Y (fr n l) o.op=some (u,c)/\∃b a,Gh d (fr n<|Y0 l o.dst u) c (fr n b) a/\d<=a.nx/\K b a)\/ (∃f args R,kM T (fr n l) o.op=some (f,args)/\aT C.prog f args Y R/\∀u c,R u c->∃b a,Gh d (fr n<|Y0 l o.dst u) c (fr n b) a/\d<=a.nx/\K b a)\/ (∃R,fI C Y (fr n l) o R/\∀u c,R u c->∃b a,Gh d (fr n<|Y0 l o.dst u) c (fr n b) a/\d<=a.nx/\K b a))
def C4:X Rl->Nat->Rl
 |[],_=>false|b::_,0=>b
 |_::l,k+1=>C4 l k
theorem Tg:∀(d:X Rl)(k:Nat),C4 d k=d.toArray.getD k false
 |[],k=>by simp[C4,Array.getD]
 |b::d,0=>by simp[C4,Array.getD]
 |b::d,k+1=>by rw[C4,Tg d k];simp[Array.getD]
def mj(d:X Rl):X Edge->Rl
 |[]=>true|e::l=>cond (Region.binds .any e) (cond (C4 d e.on) (mj d l) false) (mj d l)
theorem RJ(d:X Rl):∀(l:X Edge),mj d l=true↔∀e∈l,Region.binds .any e=true->d.toArray.getD e.on false=true
 |[]=>by simp[mj]
 |e::l=>by have g:=RJ d l;rw[mj];rcases c:Region.binds .any e with _|_;rw[zD,g];exact⟨fun h x a b=>by obtain rfl |a:=zI.1 a;(rw[c]at b;cases b);exact h x a b,fun h x a=>h x<|kj _ a⟩;rw[zC];rcases f:C4 d e.on with _|_;rw[zD];exact⟨fun h=>(by cases h),fun h=>by have:=h e ca c;rw[<-Tg,f]at this;cases this⟩;rw[zC,g];exact⟨fun h x a b=>by obtain rfl |a:=zI.1 a;(rw[<-Tg];exact f);exact h x a b,fun h x a=>h x<|kj _ a⟩
def IN(d:X Rl):Nat->X Oper->X Nat
 |_,[]=>[]|i,o::a=>cond (C4 d i) (IN d (i+1) a) (cond (mj d o.after.toList) (i::IN d (i+1) a)<|IN d (i+1) a)
theorem z32(d:X Rl): ∀(b:X Oper)(i j:Nat),j∈IN d i b↔∃k o,j=i+k/\b[k]? = some o/\C4 d j=false/\mj d o.after.toList=true
  |[],i,j=> by simp[IN]
  |o::b,i,j=> by
    have m:=z32 d b (i+1) j;have tl:(∃k a,j=i+1+k/\b[k]? = some a/\C4 d j=false/\mj d a.after.toList=true)->∃k a,j=i+k/\(o::b)[k]? = some a/\C4 d j=false/\mj d a.after.toList=true:=fun⟨k,a,s,c,f⟩=> ⟨k+1,a,by omega,by simpa using c,f⟩;have g:(∃k a,j=i+k/\(o::b)[k]? = some a/\C4 d j=false/\mj d a.after.toList=true)->(j=i/\C4 d i=false/\mj d o.after.toList=true)\/∃k a,j=i+1+k/\b[k]? = some a/\C4 d j=false/\mj d a.after.toList=true:=fun⟨k,a,s,c,f,n⟩=> by
      cases k with
      | zero => simp at c; subst c; have : j = i := by omega
                subst this;exact .inl ⟨rfl,f,n⟩
      |succ k=> exact .inr ⟨k,a,by omega,by simpa using c,f,n⟩
    rw[IN];cases r:C4 d i with
    |true=> rw[zC,m];exact⟨tl,fun h=> (g h).elim (fun q=> by rw[r]at q;cases q.2.1) id⟩|false=>rw[zD];rcases p:mj d o.after.toList with _|_;rw[zD,m];exact⟨tl,fun h=> (g h).elim (fun q=> by rw[p]at q;cases q.2.2) id⟩;rw[zC,zI,m];exact⟨fun h=> h.elim (fun q=> ⟨0,o,by omega,rfl,by rw[q];exact r,p⟩) tl,fun h=> (g h).imp (·.1) id⟩
theorem qun(a:Ie Oper)(d:X Rl)(q:d.length=a.size)(i:Nat):i∈Region.ready .any a d.toArray↔i∈IN d 0 a.toList:=by
 rw[z32];unfold Region.ready;rw[qcB,qcG];constructor;rintro⟨m,h⟩;have c:a[i]? = some a[i]:=by simp[m]
 simp only[c,zM,gK,fO,vP,qbG,nw]at h;refine⟨i,a[i],by omega,by simpa using c,?_,(RJ d _).2 fun e j g=>?_⟩;rw[Tg];have b:=h.1;have n:i<d.length:=by omega
 simpa[Array.getD,n]using b;rcases h.2 e (by simpa using j)with b |b;simp[g]at b;exact b;rintro⟨k,o,rfl,b,f,p⟩;rw[Wy]at f ⊢;have c:a[k]? = some o:=by simpa using b
 have m:k<a.size:=(Array.getElem?_eq_some_iff.1 c).1;refine⟨m,?_⟩;simp only[c,zM,gK,fO,vP,qbG,nw];refine⟨?_,fun e j=>?_⟩;rw[Tg]at f;have n:k<d.length:=by omega
 simpa[Array.getD,n]using f;rcases g:Region.binds .any e with _|_;exact .inl rfl;exact .inr ((RJ d _).1 p e (by simpa using j) g)
def RI(C:PG)(T:Tb)(a:Ie Oper)(b n:Nat)(Q:Exit->X U->Sg->Prop):Nat->X Rl->X (Nat×U)->Sg->Prop
 |0,d,l,Y=>IN d 0 a.toList=[]/\∃f c,Gh b (fr n l) Y (fr n f) c/\b<=c.nx/\Q .normal (fr n f) c|k+1,d,l,Y=>(IN d 0 a.toList).isEmpty=false/\Kw (fun j=>z_ C T a b n l Y (RI C T a b n Q k<|d.set j true) j) (IN d 0 a.toList)
section
variable{C:PG}{T:Tb}(b:j0 C.prog T){n0 n:Nat}{c:Ie Oper}{Q:Exit->X U->Sg->Prop}
include b
theorem Ro{ro:A Nat}(eN:C.ro ro){F:Nat->m9->Prop}{x0:Cx}{m0:Nm}{w0:Jb}{E:Exit->Act->Jb->Prop}{df:X Deferred}(xM:SN C n0 x0 m0 w0)(yE:fW m0 x0.s w0)(hQ:∀y tm H m w a,Q .normal tm y.Y->St F y tm H m w a->bJ m0 x0.s w0 m y.s w->Ke n0 x0 y->n0<=y.Y.nx->a.defers=df->E .normal a w):
  ∀(k:Nat)(d:X Rl)(a:Act)(w:Jb)(m:Nm)(l:X (Nat×U))(H:X I)(x:Cx),d.length=c.size->RI C T c n0 n Q k d l x.Y->St F x (fr n l) H m w a->bJ m0 x0.s w0 m x.s w->Ke n0 x0 x->n0<=x.Y.nx->a.defers=df->wpAnyIn (oQ ro) 0 C.prog .any c E k d.toArray a w:=by
 intro k;induction k with
 |zero=>intro d a w m l H x hd h st O P gY iO;obtain⟨G,N,M,W,rK,V⟩:=h;obtain⟨z,g1,g2,Z,g4,g5,g6⟩:=W F x H rfl st.h st.fr st.e;have D:=g1 m w st.fits;refine⟨?_,hQ z _ H m w a (by rw[g2];exact V) ⟨Z,g4,g5,D.fits,st.act.ext D.agree D.nx⟩ (O.trans D) (P.trans g6) (by rw[g2];exact rK) iO⟩;refine eq_nil_iff_forall_not_mem.2 fun i hi=>?_;rw[qun c d hd,G]at hi;cases hi
 |succ k ih=>
  intro d a w m l H x xL h st O P gY iO;obtain⟨hr,he⟩:=h;refine⟨fun Fp=>?_,fun j hj=>?_⟩;exfalso;rcases V:IN d 0 c.toList with _|⟨i,q⟩;rw[V]at hr;cases hr;have:=(qun c d xL i).2 (by rw[V];simp);rw[Fp]at this;cases this;rw[qun c d xL]at hj;obtain⟨o,S,hw,hd,hs⟩:=Kw.mem he j hj;have S:c[j]? = some o:=by rw[jT]at S;simpa using S
  rw[show d.toArray.setIfInBounds j true=(d.set j true).toArray by simp];have fin:∀y u B t p v,(∃N M,Gh n0 (fr n<|Y0 l o.dst u) y.Y (fr n N) M/\n0<=M.nx/\RI C T c n0 n Q k (d.set j true) N M)->St F y (eH (fr n l) o.dst u) B t p v->bJ m x.s w t y.s p->Ke x.Y.nx x y->v.defers=a.defers->wpAnyIn (oQ ro) 0 C.prog .any c E k (d.set j true).toArray v p:=fun y u B t p v ⟨N,M,W,rK,hK⟩ r J K L=>by rw[v6 u hd]at r;obtain⟨z,g1,g2,Z,g4,g5,g6⟩:=W F y B rfl r.h r.fr r.e;have D:=g1 t p r.fits;exact ih _ v p t N B z (by simpa using xL) (by rw[g2];exact hK) ⟨Z,g4,g5,D.fits,r.act.ext D.agree D.nx⟩ (O.trans<|J.trans D) (P.trans<|(K.le gY).trans g6) (by rw[g2];exact rK) (L.trans iO)
  unfold wpOpIn;simp only[S];rw[gj (st.act m<|aJ.refl _ _) c o,B9 st.e hw];simp only[It];obtain⟨u,s1,G,h2⟩|⟨f,args,R,G,h2,h3⟩|⟨R,G,h3⟩:=hs;exact v7 (P8 G) (st.op b o G fun y B t p v e1 r J K nT L=>fin y u B t p v (by rw[e1];exact h2) r J K L);exact v7 (Tp G)<|st.call b o G h2 fun y u B t p v hR r J K nT L=>fin y u B t p v (h3 u _ hR) r J K L;exact G F x H m w a _ _ rfl st ⟨eb xM.nb gY,(xM.kE yE O P).g⟩ (fun u y B t p v hR r J K nT L=>fin y u B t p v (h3 u _ hR) r J K L) ro eN
theorem I6.any{id:Nat}{l lF:X (Nat×U)}{Y YF:Sg}(h:Q .normal (fr n lF) YF->RI C T c n0 n Q c.size (replicate c.size false) l Y)(O:Q .normal (fr n lF) YF):I6 C n0 (.region id c true) (fr n l) Y Q:=fun u F x A m w a D g st s t ro j=>by
 refine wpIn_region_any b.mixed ?_;rw[show(Array.replicate c.size false)=(replicate c.size false).toArray by simp];refine Ro b (ro:=ro) j (n0:=n0) (F:=F) (x0:=x) (m0:=m) (w0:=w) (df:=a.defers) s st.fits (fun y d i z E B v o f p q r=>⟨y,d,i,z,v,o,f,p,q,by rw[r];exact t.kE st.fits f⟩) c.size _ a _ m l A x ca (g ▸ h O) ⟨st.h,st.fr,st.e,(bJ.draw _ st.fits).fits,st.act⟩ (bJ.draw _ st.fits) (Ke.refl _ _) (g ▸ u) rfl
end
def oY(Y:Sg):Prop:=∀k b,gt Y.h k=some b->k<Y.nx/\cV Y.nx b
theorem jB.wf{x:Cx}(h:jB x):oY x.Y:=fun k b a=>⟨(h.ok k b a).1,(h.ok k b a).2.lU⟩
theorem aT.wf{P:Ib}{f:FuncId}{args:X U}{Y:Sg}{Q:U->Sg->Prop}(h:oY Y->aG Y.nx args->aT P f args Y Q):aT P f args Y Q:=fun F x n m w a b d i c g j=>h (b ▸ d.wf) (b ▸ c.L5) F x n m w a b d i c g j
variable{N:Nat}{tm:X U}{H:X (Nat×B)}{Y:Sg}
theorem Gh.back{d:Nat}(g:oY Y)(o:∀k,k<Y.nx->gt H k=gt Y.h k)(m:Y.nx<=N)(n:aG Y.nx tm)(i:d<=Y.nx):Gh d tm ⟨H,N⟩ tm Y:=by
 have f:∀k,gt (Vx.cut Y.nx H) k=gt Y.h k:=fun k=>by rw[Li];by_cases c:k<Y.nx;rw[kh c,o k c];rw[iy c];rcases a:gt Y.h k with _|b;rfl;exact absurd (g k b a).1 c
 have j:Gh d tm ⟨H,N⟩ tm ⟨Vx.cut Y.nx H,Y.nx⟩:=Gh.tD (Y:=⟨H,N⟩) i m n fun k b a=>by rw[f]at a;exact(g k b a).2
 exact j.trans (Gh.same (Y:=⟨Vx.cut Y.nx H,Y.nx⟩) Y.h fun k=>(f k).symm)
section
variable{T:Tb}{n:Nat}{l:X (Nat×U)}{rs:X ResultVar}{u:U}{R:U->Sg->Prop}
theorem Xb{b:X U}(p:oY Y)(j:lB T ⟨H,N⟩ (fr n l) rs=some b)(o:mC b=u)(m:∀k,k<Y.nx->gt H k=gt Y.h k)(f:Y.nx<=N)(i:aS Y.nx u)(g:R u Y):
  (Exit.ret=.normal\/Exit.ret=.ret)/\∃c,lB T ⟨H,N⟩ (fr n l) rs=some c/\∃d a,Y.nx<=a.nx/\Gh Y.nx [mC c] ⟨H,N⟩ [d] a/\R d a :=
 ⟨.inr rfl,b,j,u,Y,zF _,by subst o;exact Gh.back p m f (by simp only[aG,X1];exact i)<|zF _,g⟩
variable{c:Sg}
theorem Xa{b:X U}(i:lB T Y (fr n l) rs=some b)(j:mC b=u)(g:c.nx<=Y.nx)(h:R u Y):
  (Exit.ret=.normal\/Exit.ret=.ret)/\∃d,lB T Y (fr n l) rs=some d/\∃f a,c.nx<=a.nx/\Gh c.nx [mC d] Y [f] a/\R f a :=
 ⟨.inr rfl,b,i,u,Y,g,by subst j;exact Gh.refl _ _ _,h⟩
variable{a:Tmp}{t:X ResultVar}
theorem I_(q:oY Y)(p:rs=.tmp a::t)(h:bM n l (.tmp a)=some u)(g:t=[])(o:∀k,k<Y.nx->gt H k=gt Y.h k)(i:Y.nx<=N)(m:aS Y.nx u)(j:R u Y):
  (Exit.ret=.normal\/Exit.ret=.ret)/\∃d,lB T ⟨H,N⟩ (fr n l) rs=some d/\∃f b,Y.nx<=b.nx/\Gh Y.nx [mC d] ⟨H,N⟩ [f] b/\R f b:=by subst p;subst g;exact Xb q (eL h eB) rfl o i m j
theorem Ag{b:Tmp}{v:U}(s:oY Y)(r:rs=.tmp a :: .tmp b::t)(h:bM n l (.tmp a)=some u)(i:bM n l (.tmp b)=some v)(j:t=[])(q:∀k,k<Y.nx->gt H k=gt Y.h k)(m:Y.nx<=N)(p:aS Y.nx (.a7 [u,v]))(o:R (.a7 [u,v]) Y):
  (Exit.ret=.normal\/Exit.ret=.ret)/\∃f,lB T ⟨H,N⟩ (fr n l) rs=some f/\∃g d,Y.nx<=d.nx/\Gh Y.nx [mC f] ⟨H,N⟩ [g] d/\R g d:=by subst r;subst j;exact Xb s (eL h<|eL i eB) rfl q m p o
theorem DJ(m:rs=.tmp a::t)(h:bM n l (.tmp a)=some u)(g:t=[])(i:c.nx<=Y.nx)(j:R u Y):
  (Exit.ret=.normal\/Exit.ret=.ret)/\∃d,lB T Y (fr n l) rs=some d/\∃f b,c.nx<=b.nx/\Gh c.nx [mC d] Y [f] b/\R f b:=by subst m;subst g;exact Xa (eL h eB) rfl i j
theorem Kr{b:Tmp}{v:U}(p:rs=.tmp a :: .tmp b::t)(h:bM n l (.tmp a)=some u)(i:bM n l (.tmp b)=some v)(j:t=[])(m:c.nx<=Y.nx)(o:R (.a7 [u,v]) Y):
  (Exit.ret=.normal\/Exit.ret=.ret)/\∃f,lB T Y (fr n l) rs=some f/\∃g d,c.nx<=d.nx/\Gh c.nx [mC f] Y [g] d/\R g d:=by subst p;subst j;exact Xa (eL h<|eL i eB) rfl m o
end
section
variable{T:Tb}{n:Nat}{l:X (Nat×U)}{h:X (Nat×B)}{nx:Nat}{op:Op}
theorem CR{k off:Nat}{x:Qo}{q:X U}{e:TypeId}(a:op=.nilCheck x)(b:bM n l x=some (.ptr k 0 off))[g:fP h k (.row q e)]:bH T ⟨h,nx⟩ (fr n l) op=some (.ptr k 0 off,⟨h,nx⟩):=by subst a;exact hZ b (by simp only[live,g.h];rfl)
end
variable{v11:Prop}
theorem oP (h:v11:=by first
 |exact Go.Vx.CR rfl rfl
 |exact Go.Vx.uN):v11:=h
theorem P0 (h:v11:=by first
 |exact Go.Vx.CR rfl rfl
 |exact Go.Vx.CM):v11:=h
section
variable{T:Tb}{a r:X Oper}{o:Oper}{n:Nat}{l:X (Nat×U)}{Y Y':Sg}{u:U}
theorem RS.on{C:PG}{K:X U->Sg->Prop}{d:Tmp}(f:RU C T a r (fr n ((d,u)::l)) Y' K)(h:bH T Y (fr n l) o.op=some (u,Y'):=by exact Go.Vx.oP)(c:o.dst=some d:=by exact rfl)(g:c9 a (fr n l) o=some true:=by exact Go.Vx.wA)(b:blt d n=true:=by exact rfl):RU C T a (o::r) (fr n l) Y K:=RS.op g h c b f
theorem RD.on{P:Ib}{b:X RK}{K:X RK->X U->Sg->Prop}{d:Tmp}(g:RH P T a r (fr n ((d,u)::l)) Y ((1,⟨fr n l,o,u,false,false,Y,Y⟩)::b) K)(h:bH T Y (fr n l) o.op=some (u,Y):=by exact Go.Vx.P0)(f:o.dst=some d:=by exact rfl)(i:c9 a (fr n l) o=some true:=by exact Go.Vx.wA)(c:blt d n=true:=by exact rfl):RH P T a (o::r) (fr n l) Y b K:=RD.look i h f c g
end
theorem goN{B:Prop}(h:B)(g:Hd B->v11:=by intro h;(repeat' first |refine Go.Vx.gs ?_ |refine Go.Vx.RS.on ?_ |refine Go.Vx.AJ rfl ?_);exact h.h):v11:=g ⟨h⟩
theorem gnN{B:Prop}(h:B)(g:Hd B->v11:=by intro h;(repeat' first |refine Go.Vx.gs ?_ |refine Go.Vx.RS.on ?_);exact h.h):v11:=g ⟨h⟩
theorem cX{B:Prop}(h:B) (g:Hd B->v11:=by
 intro h
 repeat' first
  |(refine Go.Vx.RD.nt rfl rfl rfl ?_ rfl ?_;· first |with_reducible_and_instances assumption |exact rfl)
  |(refine Go.Vx.RD.nf rfl rfl rfl ?_ rfl ?_;· first |with_reducible_and_instances assumption |exact rfl)
  |refine Go.Vx.RD.on ?_
 exact h.h):v11:=g ⟨h⟩
variable{K:Nat}
theorem Lx(b:B)(d:Nat){c:B}(h:cV K c):fv K b d c=c:=by
 cases c with
 |row l e=>simp only[fv];rw[sA _ _ _ h]|vec l e s st=>simp only[fv];rw[sA _ _ _ h]
 |map i f=>simp only[fv,B.map.injEq,X1];exact Wu (g:=id) (fun e a=>by rw[N6 _ _ _ (h e a).2];rfl)|>.trans ca
theorem Ma{n k:Nat}(h:n<=k){b:B}(a:cV n b):cV k b:=by
 cases b with
 |row l e=>exact aG.le h _ a|vec l e s st=>exact aG.le h _ a
 |map f d=>exact fun e c=>⟨aS.le h _ (a e c).1,aS.le h _ (a e c).2⟩
variable{sz:Nat}{f:Type}{e:TypeId}
theorem yp{a st:Nat}{c:f->X U}{xs:X f}{tm':X U}(d:oY Y)(m:Y.nx<=K)(p:gt H K=some (.bv c xs e sz st))(r:∀k,k<Y.nx->gt H k=gt Y.h k)(n:Y.nx<=N)(s:k9 K (.bv c xs e sz st) sz tm=tm')(o:aG Y.nx tm')(i:a<=Y.nx):Gh a tm ⟨H,N⟩ tm' Y:=by have j:Gh a tm ⟨H,N⟩ tm' ⟨dA K (.bv c xs e sz st) sz H,N⟩:=Gh.fz (Y:=⟨H,N⟩) K (.bv c xs e sz st) sz p nofun s rfl;refine j.trans<|Gh.back d (fun k q=>?_) n o i;rw[J7,iy ag,r k q];rcases g:gt Y.h k with _|b;rfl;simp only[zM];rw[Lx _ _<|Ma m (d k b g).2]
instance(priority:=50){h:X (Nat×B)}{K:Nat}{b:B}:XU h K b (ug h K b):=⟨rfl⟩
section
variable{T:Tb}{n:Nat}{l:X (Nat×U)}{h:X (Nat×B)}{nx nx':Nat}{op:Op}
theorem oAe{c:f->X U}{x y:Qo}{t o p r:TypeId}{args:Ie Qo}{m:Ie TypeId}{a off d j:Nat}{z:I}{ys:X f}{b:Rl}{q:X U}(v:op=.call { callee:=.builtin .append,args:=args,argTypes:=m })(s:args.toList=[x,y])(D:m.toList=[t,o])(E:bM n l x=some (.sl a off 0 0))(F:bM n l y=some (.O b<|ys.map c))[d1:dY T t (.slice e)][d2:dY T o (.slice r)][i:i5 T e d j z][g:fP h a (.row q p)][J:gH c d][u:ck nx nx'](w:ble 1 d=true)(A:ble off q.length=true)(G:Nat.beq z.cells.toList.length d=true)(C:ys.length*j<=140737488355328/\ys.length<=140737488355328):bH T ⟨h,nx⟩ (fr n l) op=some (.vl nx 0 0 ys.length,⟨(nx,.bv c ys e d 0)::h,nx'⟩):=by subst v;have L:=u.h;subst L;obtain⟨sz,rfl⟩:∃sz,d=sz+1:=⟨d-1,by have:=zY w;omega⟩;exact rG (Y:=⟨h,nx⟩) s D E F (ss c ys d1.h d2.h i.h G (by simp only[rowOf,g.h]) A (Lq c J.h) C)
end
theorem I6.wf{C:PG}{d:Nat}{c:Code}{tm:X U}{Y:Sg}{Q:Exit->X U->Sg->Prop}(h:oY Y->aG Y.nx tm->I6 C d c tm Y Q):I6 C d c tm Y Q:=fun o F x q m w a g b st j n p i=>h (b ▸ st.h.wf) (b ▸ st.e.L5) o F x q m w a g b st j n p i
theorem Gh.first{m st:Nat}{l:X U}(hw:oY Y)(hK:Y.nx<=K)(hN:K<N)(Q:gt H K=some (.vec l e sz st))(D:∀k,k<Y.nx->gt H k=gt Y.h k)(a:aG Y.nx l):Gh Y.nx [.vl K st 0 m] ⟨H,N⟩ [.vl Y.nx st 0 m] ⟨(Y.nx,.vec l e sz st)::Y.h,Y.nx+1⟩:=fun F x tv hx L hf V=>by
 have n:x.Y.h=H:=by rw[hx]
 have O3:x.Y.nx=N:=by rw[hx]
 let y:Cx:=⟨fun k=>if k=Y.nx then x.Z K else x.Z k,⟨(Y.nx,.vec l e sz st)::Y.h,Y.nx+1⟩,x.s⟩
 have hnone:∀k,Y.nx<=k->gt Y.h k=none:=fun k d=>by rcases hq:gt Y.h k with _|b;rfl;have:=(hw k b hq).1;omega
 have J:Mo Y.nx x y:=⟨fun k d nI=>⟨Xm d,fun T r=>by
  have g:gt y.Y.h k=gt Y.h k:=by show gt ((Y.nx,_)::Y.h) k=_;rw[aV,iy ag]
  rw[g,<-D k d,<-n]at r;exact⟨T,r,zF _,fun _=>⟨by show(if k=Y.nx then _ else _)=_;rw[iy ag],fun l e sz st h=>⟨l,h⟩⟩⟩⟩,fun _ _ _ h=>h⟩
 have I:∀k b,gt y.Y.h k=some b->(k=Y.nx/\b=.vec l e sz st)\/(k<Y.nx/\gt Y.h k=some b):=fun k b a=>by have a:gt ((Y.nx,B.vec l e sz st)::Y.h) k=some b:=a;rw[aV]at a;by_cases e:Y.nx=k;rw[kh e]at a;cases a;exact .inl ⟨e.symm,rfl⟩;rw[iy e]at a;exact .inr ⟨(hw k b a).1,a⟩
 have z:∀k,k<Y.nx->y.Z k=x.Z k:=fun k d=>by show(if k=Y.nx then _ else _)=_;rw[iy ag]
 have M:y.Z Y.nx=x.Z K:=by show(if Y.nx=Y.nx then _ else _)=_;rw[kh rfl]
 refine⟨y,fun m w hf=>bJ.refl hf,rfl,⟨fun k b xU=>?_,fun k u b T i a r g o=>?_,L.bd⟩,fun i b O=>?_,?_,J.ke⟩;obtain⟨rfl,rfl⟩|⟨d,a⟩:=I k b xU;refine⟨zN _,?_⟩;obtain⟨_,G,W,p⟩:=L.ok K _ (by rw[n];exact Q);refine⟨G,W,?_⟩;rw[M];obtain p |⟨i,R,A,C,t⟩:=p;exact .inl p;exact .inr ⟨i,R,A,C,J.ke.E a t⟩;refine⟨Xm d,?_⟩;have h0:gt x.Y.h k=some b:=by rw[n,D k d];exact a
 have wE:=(hw k b a).2;obtain⟨_,p⟩:=L.ok k b h0;cases b with
 |row q e'=>obtain⟨G,i,R,A,C,t⟩:=p;exact⟨G,i,R,by rw[z k d];exact A,C,J.ke.E wE t⟩
 |vec q e' gT bA=>obtain⟨G,W,p⟩:=p;refine⟨G,W,?_⟩;rw[z k d];obtain p |⟨i,R,A,C,t⟩:=p;exact .inl p;exact .inr ⟨i,R,A,C,J.ke.E wE t⟩
 |map es cl=>obtain⟨i,es',A,C,t⟩:=p;refine⟨i,es',by rw[z k d];exact A,C,t.1,fun j e V=>?_⟩;obtain⟨v,q1,q2,q3,q4⟩:=t.2 j e V;have P:=wE e<|zX V;exact⟨v,q1,J.ke _ _ P.1 q2,J.ke _ _ P.2 q3,q4⟩
 obtain⟨rfl,rfl⟩|⟨d,a⟩:=I k b a;obtain⟨rfl,_⟩|⟨S,r⟩:=I u T r;rfl;rw[M]at g;rw[z u S]at o;have:=L.inj K u _ _ i (by rw[n];exact Q) (by rw[n,D u S];exact r) g o;omega;obtain⟨rfl,rfl⟩|⟨S,r⟩:=I u T r;rw[M]at o;rw[z k d]at g;have:=L.inj k K _ _ i (by rw[n,D k d];exact a) (by rw[n];exact Q) g o;omega;rw[z k d]at g;rw[z u S]at o;exact L.inj k u _ _ i (by rw[n,D k d];exact a) (by rw[n,D u S];exact r) g o;obtain⟨g,o⟩:=hf i b O;refine⟨g,fun k c hc=>?_⟩;obtain⟨rfl,rfl⟩|⟨d,a⟩:=I k c hc;rw[M];exact o K _ (by rw[n];exact Q);rw[z k d];exact o k _ (by rw[n,D k d];exact a);obtain⟨v,vs,rfl,g,o⟩:=V.inv;have:=o.L7;subst this;refine aZ.cons ?_<|aZ.nil y;simp only[aD]at g ⊢;obtain⟨G,W,k3⟩:=g;refine⟨G,zN _,fun b a=>?_⟩;obtain⟨_,rfl⟩|⟨d,_⟩:=I _ b a;obtain⟨g1,g2⟩:=k3 _ (by rw[n];exact Q);refine⟨g1,fun h=>?_⟩;rw[M];exact g2 h;omega
theorem fI.op{C:PG}{T:Tb}(t:j0 C.prog T){Y c:Sg}{tm:X U}{o:Oper}{u:U}(h:bH T Y tm o.op=some (u,c)):fI C Y tm o (fun D A=>D=u/\A=c):=fun F x J m w a next Q r st G v I E=>by
 subst r;exact v7 (P8 h) (st.op t o h fun y n d b i p j g q s z=>v u y n d b i ⟨rfl,p⟩ j g q s z)
theorem fI.mono{C:PG}{o:Oper}{R c:U->Sg->Prop}(h:fI C Y tm o R)(t:∀u s,R u s->c u s):fI C Y tm o c:=fun F x z m w a next Q n st p r v j=>h F x z m w a next Q n st p (fun u y i d b g q=>r u y i d b g<|t _ _ q) v j
section
variable{C:PG}{T:Tb}{a r:X Oper}{o:Oper}{n:Nat}{l:X (Nat×U)}{Y:Sg}{K:X U->Sg->Prop}{R:U->Sg->Prop}
theorem EP{d:Tmp}(g:o.dst=some d)(j:fI C Y (fr n l) o R)(i:∀u b,R u b->RU C T a r (fr n ((d,u)::l)) b K)(m:c9 a (fr n l) o=some true:=by exact Go.Vx.wA)(c:blt d n=true:=by exact rfl):RU C T a (o::r) (fr n l) Y K :=
 .inr (.inr<|.inr<|.inr ⟨m,R,j,fun u b h=>by rw[g,v6 (d:=some d) u c];exact i u b h⟩)
theorem RS.nS(c:o.dst=none)(g:fI C Y (fr n l) o R)(d:∀u b,R u b->RU C T a r (fr n l) b K)(i:c9 a (fr n l) o=some true:=by exact Go.Vx.wA):RU C T a (o::r) (fr n l) Y K :=
 .inr (.inr<|.inr<|.inr ⟨i,R,g,fun u b h=>by rw[c];exact d u b h⟩)
end
section
variable{T:Tb}{Y:Sg}{n:Nat}{l:X (Nat×U)}{v w:U}
theorem Jj(c:f->X U)(d:X f){t q j:TypeId}{g a st off:Nat}{z:I}{b W:X f}(C:T.G4 t=some (.slice e))(y:T.G4 q=some (.slice j))(E:T.inf e=some (sz+1,g,z))(P:Nat.beq z.cells.toList.length (sz+1)=true)(A:∀x,(c x).length=sz+1)(D:gt Y.h a=some (.vec (b.map c).flatten e (sz+1) st))(M:b.drop off=W)(F:off<=b.length)(i:off=0\/W≠[])(O:0<d.length)(L:wM Y (sz+1) w=some (d.length,(d.map c).flatten))(p:(W.length+d.length)*g<=140737488355328/\W.length+d.length<=140737488355328):DO T Y t q (.vl a st off W.length) w=some (.vl a (st+1) 0 (W++d).length,⟨ug Y.h a<|.vec ((W++d).map c).flatten e (sz+1) (st+1),Y.nx⟩):=by
 subst M;have r:Nat.beq st st=true:=by simp[beq_eq]
 have s:Nat.beq e e=true:=by simp[beq_eq]
 have u:Nat.beq (sz+1) (sz+1)=true:=by simp[beq_eq]
 have m:∀l:X f,(l.map c).flatten.length=l.length*(sz+1):=fun l=>FA A l;have J:lW (b.map c).flatten (off*(sz+1)) ((b.drop off).length*(sz+1))=some ((b.drop off).map c).flatten:=by
  have o:(b.map c).flatten=((b.take off).map c).flatten++((b.drop off).map c).flatten:=by rw[<-qcg,<-LY,Ww]
  have j:((b.take off).map c).flatten.length=off*(sz+1):=by rw[m,Wz,wv F]
  unfold lW;rw[kh (by rw[o,zU,j,m];omega),o,<-j,wj,zW (by rw[m];exact zF _)]
 have Q:0<d.length/\(off=0\/0<(b.drop off).length)\/off=0/\(b.drop off).length*(sz+1)=(b.map c).flatten.length:=by
  refine .inl ⟨O,?_⟩;obtain i |i:=i;exact .inl i;exact .inr (by cases G:b.drop off with
   |nil=>exact absurd G i|cons=>simp)
 rw[qvq,zU];simp only[DO,C,y,E,P,zC,L,D,r,s,u,J,p.1,p.2,di,Q,It]
end
theorem uY.bp{P:Ib}{T:Tb}{n:Nat}{l:X (Nat×U)}{t:TypeId}{b:Nat}{z:I}{c cs:X U}{x:Qo}{u:U}(j:T.G4 t=some (.slice e))(p:T.inf e=some (sz,b,z))(a:bM n l x=some u)(d:ble (1*sz) 16777216=true)(g:Nat.beq z.cells.toList.length sz=true)(s:qN z.cells.toList=some c)(o:rY (fun i=>some (i*sz,sz)) (y3 c 1) [(0,u)]=some cs)(q:I5 cs=true)(r:cs.length=sz)(h:∀m,aS m u->aG m cs):uY P T (fr n l) (.buildSlice t 1 #[(0,x)]) (.O false [cs]):=by refine .inr ⟨1,sz,cs,e,fun Y=>F2 j p (show DH n l [(0,x)]=some [(0,u)] by simp[DH,a]) d rfl g s o q,by omega,fun m hm=>h m (hm x (by simp[Op.operands]) u<|dF a),?_⟩;rw[show bR sz 1 cs=[cs] by simp[bR,<-r]]
theorem jU{k nx:Nat}{b:B}{h:X (Nat×B)}(a:k<nx):gt ((nx,b)::h) k=gt h k:=by rw[aV,iy ag]
end Go.Vx
namespace Go.Proofs
open Go Go.Rx Go.Vx Tryz
instance:uL tb 95 [.b8,.int .i64 0] [(0,1),(1,1)]:=⟨vM D?.h K?.h rfl bD⟩
instance:uL tb 97 [.int .i64 0,.int .i64 0] [(0,1),(1,1)]:=⟨vM C?.h if97.h rfl bD⟩
instance:uL tb 99 [.J,.int .i64 0] [(0,1),(1,1)]:=⟨vM B?.h if99.h rfl bD⟩
instance:uL tb 101 [.bool false,.int .i64 0] [(0,1),(1,1)]:=⟨vM Qw.h Yt.h rfl bD⟩
instance:uL tb 103 [.int .i64 0,.J,.b8,.int .i64 0,.int .i64 0,.int .i64 0,.J,.int .i64 0,.b8,.int .i64 0,.bool false,.int .i64 0] [(0,1),(1,1),(2,2),(4,2),(6,2),(8,2),(10,2)]:=⟨vM Qv.h nF.h rfl bD⟩
instance:uL tb 107 [.int .i64 0,.b8] [(0,1),(1,1)]:=⟨vM Qu.h DY.h rfl bD⟩
structure dZ where
 f:Int
 to:Nat
structure PN where
 kind:Int
 D8:X dZ
 fw:A Nat
 c3:Int
 mt:Int
 b9:Int
 more:X dZ
 L8:Int
 cp:A Nat
 c8:Int
 ch:Rl
 c4:Int
abbrev pt(nm:Nat->Nat)(i:Nat):U:=.ptr (nm i) 0 0
def po(nm:Nat->Nat):A Nat->U
 |none=>.b8|some i=>pt nm i
def bW(nm:Nat->Nat)(a:dZ):X U:=[.int .i64 a.f,pt nm a.to]
def oV(nm:Nat->Nat)(x:PN):X U:=[.i6 x.kind,.iM (bW nm) x.D8,po nm x.fw,.i6 x.c3,.i6 x.mt,.i6 x.b9,.iM (bW nm) x.more,.i6 x.L8,po nm x.cp,.i6 x.c8,.bool x.ch,.i6 x.c4]
instance{nm:Nat->Nat}:gH (bW nm) 2:=⟨fun _=>rfl⟩
theorem getP(Y:Sg)(nm:Nat->Nat)(o:A Nat)(a b:Int):aT prog 71 [.agg [po nm o,.i6 a],.i6 b] Y (fun u g=>u=.a7 [po nm<|cond (a != b) none o,.bool<|!(a != b)]/\g=Y):=by
 refine aT.wf fun f e=>?_;simp only[aG,aS,X1,di]at e;obtain⟨h,nx⟩:=Y
 haveI:ck nx (nx+1):=⟨rfl⟩
 obtain _ |i:=o
 all_goals
  refine eO 14 zE ?_;refine go ?_;refine eD rfl (fun c=>?_) (fun c=>?_);refine go ?_;exact Ag f rfl rfl rfl rfl (fun k d=>jU d) (Wt _) (by simp[aS,aG]) ⟨by rw[c];rfl,rfl⟩;refine go ?_;exact Ag f rfl rfl rfl rfl (fun k d=>jU d) (Wt _) (by simp only[aS,aG,X1];exact e) ⟨by rw[c];rfl,rfl⟩
theorem xf(Y:Sg)(v a b:Int):aT prog 108 [.agg [.i6 v,.i6 a],.i6 b] Y (fun u f=>u=.a7 [.i6<|cond (a != b) 0 v,.bool<|!(a != b)]/\f=Y):=by
 refine aT.wf fun e g=>?_;obtain⟨h,nx⟩:=Y
 haveI:ck nx (nx+1):=⟨rfl⟩
 refine eO 14 LU ?_;refine go ?_;refine eD rfl (fun c=>?_) (fun c=>?_);refine go ?_;exact Ag e rfl rfl rfl rfl (fun k d=>jU d) (Wt _) (by simp[aS,aG]) ⟨by rw[c];rfl,rfl⟩;refine go ?_;exact Ag e rfl rfl rfl rfl (fun k d=>jU d) (Wt _) (by simp[aS,aG]) ⟨by rw[c];rfl,rfl⟩
theorem Hg(Y:Sg)(v:Rl)(a b:Int):aT prog 69 [.agg [.bool v,.i6 a],.i6 b] Y (fun u f=>u=.a7 [.bool<|cond (a != b) false v,.bool<|!(a != b)]/\f=Y):=by
 refine aT.wf fun e g=>?_;obtain⟨h,nx⟩:=Y
 haveI:ck nx (nx+1):=⟨rfl⟩
 refine eO 14 S5 ?_;refine go ?_;refine eD rfl (fun c=>?_) (fun c=>?_);refine go ?_;exact Ag e rfl rfl rfl rfl (fun k d=>jU d) (Wt _) (by simp[aS,aG]) ⟨by rw[c];rfl,rfl⟩;refine go ?_;exact Ag e rfl rfl rfl rfl (fun k d=>jU d) (Wt _) (by simp[aS,aG]) ⟨by rw[c];rfl,rfl⟩
theorem S2(Y:Sg)(nm:Nat->Nat)(v:X dZ)(a b:Int):aT prog 104 [.agg [.iM (bW nm) v,.i6 a],.i6 b] Y (fun u g=>u=.a7 [.iM (bW nm)<|cond (a != b) [] v,.bool<|!(a != b)]/\g=Y):=by
 refine aT.wf fun f e=>?_;simp only[aG,aS,X1,di]at e;obtain⟨h,nx⟩:=Y
 haveI:ck nx (nx+1):=⟨rfl⟩
 refine eO 14 AA ?_;refine go ?_;refine eD rfl (fun c=>?_) (fun c=>?_);refine go ?_;refine⟨.inr rfl,_,eL rfl (eL rfl eB),.a7 [.O false [],.bool false],⟨h,nx⟩,zF _,?_,by rw[c];rfl,rfl⟩;exact(Gh.wk<|.cons (.a7<|.cons (.nil false)<|.cons (.refl _) .nil) .nil).trans (Gh.back f (fun k d=>jU d) (Wt _) (by simp[aG,aS,lL])<|zF _);refine go ?_;exact Ag f rfl rfl rfl rfl (fun k d=>jU d) (Wt _) (by simp only[aS,aG,X1];exact e) ⟨by rw[c];rfl,rfl⟩
variable{nm:Nat->Nat}
theorem Ai{o:A Nat}{a b:Int}{t:Rl}{v:U}(d:(a != b)=t)(e:po nm (cond t none o)=v)(Y:Sg):aT prog 71 [.agg [po nm o,.i6 a],.i6 b] Y (fun u c=>u=.a7 [v,.bool<|!t]/\c=Y):=by subst d;subst e;exact getP Y nm o a b
structure PP where
 H:dK
 N:X PN
 roots:X Nat
 size:Int
 gen:Int
def dQ(nm:Nat->Nat)(i:Nat):X U:=[pt nm i]
instance{nm:Nat->Nat}:gH (dQ nm) 1:=⟨fun _=>rfl⟩
def sY(a st:Nat)(P:PP):X U:=[.iM jV P.H.Types,.iM mQ P.H.E3,.vl a st 0 P.roots.length,.i6 P.size,.i6 P.gen]
def GC(n:Nat):A Nat->Prop
 |none=>True|some i=>i<n
structure lJ(n:Nat)(x:PN):Prop where
 D8:∀a∈x.D8,a.to<n
 fw:GC n x.fw
 more:∀a∈x.more,a.to<n
 cp:GC n x.cp
structure PH(kp kr st:Nat)(nm:Nat->Nat)(P:PP)(h:X (Nat×B)):Prop where
 b5:gt h kp=some (.row (sY kr st P) 83)
 roots:gt h kr=some (.vec (P.roots.map (dQ nm)).flatten 92 1 st)
 node:∀i x,P.N[i]? = some x->gt h (nm i)=some (.row (oV nm x) 103)
 inj:∀i j,i<P.N.length->j<P.N.length->nm i=nm j->i=j
 wf:∀x∈P.N,lJ P.N.length x
 rt:∀r∈P.roots,r<P.N.length
def u9(N:X PN)(g:Int):Nat->Nat->A Nat
 |0,_=>none|m+1,p=>a8 N[p]? fun x=>cond (x.c3 != g) (some p) (a8 x.fw fun q=>u9 N g m q)
section
variable{kp a st:Nat}{nm:Nat->Nat}{P:PP}{h:X (Nat×B)}{nx:Nat}
theorem PH.gp(p:PH kp a st nm P h):fP h kp (.row [.iM jV P.H.Types,.iM mQ P.H.E3,.vl a st 0 P.roots.length,.i6 P.size,.i6 P.gen] 83):=⟨p.b5⟩
theorem PH.gn(p:PH kp a st nm P h){i:Nat}{x:PN}(b:P.N[i]? = some x):fP h (nm i) (.row [.i6 x.kind,.iM (bW nm) x.D8,po nm x.fw,.i6 x.c3,.i6 x.mt,.i6 x.b9,.iM (bW nm) x.more,.i6 x.L8,po nm x.cp,.i6 x.c8,.bool x.ch,.i6 x.c4] 103):=⟨p.node i x b⟩
theorem U9(p:PH kp a st nm P h)(n:Nat){i r:Nat}(O:u9 P.N P.gen n i=some r):aT prog 66 [.ptr kp 0 0,pt nm i] ⟨h,nx⟩ (fun u d=>u=pt nm r/\d=⟨h,nx⟩):=by
 haveI:=p.gp
 refine eO 23 zR ?_;refine goN ?_;refine gL (fun m g Y=>∃i,u9 P.N P.gen m i=some r/\g=fr 23 [(0,.ptr kp 0 0),(1,pt nm i)]/\Y=⟨h,nx⟩) (fun _ _=>False) n ⟨i,O,rfl,rfl⟩ (fun _ _ h=>h.elim) ?_<|zF _;rintro(_ |m) _ _ ⟨i,O,rfl,rfl⟩;cases O;obtain⟨x,f,O⟩:=aK O
 haveI:=p.gn f
 refine goN ?_;apply eX;refine goN ?_;refine dE [] ?_;refine cX ?_;cases c:x.c3 != P.gen with
 |true=>rw[c]at O;obtain rfl:=sI O;refine eA rfl (Ai c rfl) zE ?_;refine cX ?_;refine bC ⟨by kernel_rfl,trivial,?_⟩;refine goN ?_;refine eD rfl (fun b=>?_) (fun b=>by cases b);refine goN ?_;exact DJ rfl rfl rfl (zF _) ⟨rfl,rfl⟩
 |false=>rw[c]at O;obtain⟨q,e,O⟩:=aK O;refine eA rfl (Ai (v:=pt nm q) c (by rw[e];rfl)) zE ?_;refine cX ?_;refine bC ⟨by kernel_rfl,trivial,?_⟩;refine goN ?_;refine eD rfl (fun b=>by cases b) (fun b=>?_);refine goN ?_;exact⟨m,_,_,zN _,⟨q,O,rfl,rfl⟩,zF _,Gh.sub<|by((repeat refine⟨rfl,?_⟩);exact trivial)⟩
end
theorem Mn{n:Nat}(l:X dZ)(e:∀a∈l,nm a.to<n):lL n (l.map<|bW nm):=by rw[Mp];intro c d;obtain⟨a,b,rfl⟩:=mem_map.1 d;simp only[bW,pt,aG,aS,X1,di];exact e a b
theorem qp2(h:X (Nat×B))(nx:Nat)(nm:Nat->Nat)(l:X dZ)(m:l.length<=1000000):aT prog 105 [.iM (bW nm) l] ⟨h,nx⟩ (fun u f=>u=.vl nx 0 0 l.length/\f=⟨(nx,.bv (bW nm) l 107 2 0)::h,nx+1⟩):=by
 refine aT.wf fun i d=>?_
 haveI:ck nx (nx+1):=⟨rfl⟩
 refine m6 8 EK ?_;refine goN ?_;refine RS.kQ rfl rfl (by exact dY.h) rfl rfl rfl rfl (fun z j=>?_);refine goN ?_;refine eD rfl (fun b=>?_) (fun b=>?_);have:l=[]:=by have:=j b;simpa using this
 subst this;refine goN ?_;exact⟨.inr rfl,_,eL rfl eB,.vl nx 0 0 0,⟨(nx,.vec [] 107 2 0)::h,nx+1⟩,Wt _,B_ (Y:=⟨h,nx⟩) (tm:=[.J]) 0 107 2 cg (zF _) rfl,rfl,rfl⟩;refine goN ?_
 haveI:ck (nx+1) (nx+2):=⟨rfl⟩
 refine cE ?_;refine goN ?_;refine RS.w rfl (oAe (c:=bW nm) (ys:=l) rfl rfl rfl rfl rfl rfl rfl rfl ⟨by omega,by omega⟩) ?_;refine goN ?_;refine⟨.inr rfl,_,eL rfl eB,.vl nx 0 0 l.length,_,?_,Gh.first (Y:=⟨h,nx⟩) (K:=nx+1) (N:=nx+2) i (Wt _) (zN _) (by simp[aV]) (fun k e=>?_) ?_,rfl,rfl⟩;exact Wt _;have e:k<nx:=e;rw[aV,iy ag,aV,iy ag];simp only[aG,aS,X1]at d;rw[DS];intro u a;obtain⟨c,g,a⟩:=mem_flatten.1 a;exact(DS _ _).1 ((Mp _ _).1 d c g) u a
def hX(g:Int)(x:PN):Int:=cond (x.b9 != g) x.kind x.mt
def gW(g:Int)(x:PN):X dZ:=cond (x.L8 != g) [] x.more
def bV(g:Int)(x:PN):X dZ:=x.D8++gW g x
section
variable{kp b st:Nat}{nm:Nat->Nat}{P:PP}{h:X (Nat×B)}{nx:Nat}{i:Nat}{x:PN}
theorem Sw(p:PH kp b st nm P h)(e:P.N[i]? = some x):aT prog 70 [.ptr kp 0 0,pt nm i] ⟨h,nx⟩ (fun u d=>u=.i6 (hX P.gen x)/\d=⟨h,nx⟩):=by
 haveI:=p.gp
 haveI:=p.gn e
 refine eO 25 zP ?_;refine goN ?_;refine dE [] ?_;refine cX ?_;refine eA rfl (fun s=>xf s x.mt x.b9 P.gen) LU ?_;refine cX ?_;refine bC ⟨by kernel_rfl,trivial,?_⟩;refine goN ?_;refine eD rfl (fun a=>?_) (fun a=>?_);refine goN ?_;have c:(x.b9 != P.gen)=false:=by simpa using a
 exact DJ rfl rfl rfl (zF _) ⟨by rw[hX,c];rfl,rfl⟩;refine goN ?_;have c:(x.b9 != P.gen)=true:=by simpa using a
 exact DJ rfl rfl rfl (zF _) ⟨by rw[hX,c];rfl,rfl⟩
theorem PH.lt(p:PH kp b st nm P h)(c:oY ⟨h,nx⟩)(a:i<P.N.length):nm i<nx:=(c _ _<|p.node i _<|hF a).1
theorem PH.rA(p:PH kp b st nm P h)(e:oY ⟨h,nx⟩)(j:P.N[i]? = some x)(g:Int):∀a∈bV g x,nm a.to<nx:=fun a c=>by
 have f:=p.wf x<|zX j;obtain c |c:=yD.1 c;exact p.lt e<|f.D8 a c;unfold gW at c;rcases d:x.L8 != g with _|_;rw[d]at c;exact p.lt e<|f.more a c;rw[d]at c;cases c
theorem qtg(p:PH kp b st nm P h)(d:P.N[i]? = some x)(l:(bV P.gen x).length<=1000000):aT prog 72 [.ptr kp 0 0,pt nm i] ⟨h,nx⟩ (fun u g=>u=.iM (bW nm) (bV P.gen x)/\g=⟨h,nx⟩):=by
 refine aT.wf fun a _=>?_;have f:=Mn (nm:=nm) (n:=nx) _<|p.rA a d P.gen;rw[bV,zU]at l
 haveI:=p.gp
 haveI:=p.gn d
 refine eO 26 G5 ?_;refine goN ?_;refine dE [] ?_;refine cX ?_;refine eA rfl (fun s=>S2 s nm x.more x.L8 P.gen) AA ?_;refine cX ?_;refine bC ⟨by kernel_rfl,trivial,?_⟩;refine goN ?_;refine lT rfl (iE rfl EK rfl).2 (qp2 h nx nm x.D8 ag) rfl rfl ?_;rintro _ _ ⟨rfl,rfl⟩;refine goN ?_;refine RS.w rfl (vS (c:=bW nm) (xs:=x.D8) (ys:=gW P.gen x) rfl rfl rfl rfl rfl rfl rfl rfl ⟨by omega,by omega⟩) ?_;refine goN ?_;refine⟨.inr rfl,_,eL rfl eB,_,⟨h,nx⟩,zF _,yp (c:=bW nm) (xs:=bV P.gen x) (e:=107) (sz:=2) (K:=nx) (st:=1) a (zF _) (by simp[aV,bV]) (fun k j=>jU j) (Wt _) (tm':=[.iM (bW nm)<|bV P.gen x]) ?_ (by simp only[aG,aS,X1];exact f)<|zF _,rfl,rfl⟩;exact congrArg (fun u=>[u]) (J1 (c:=bW nm) (sz:=2) (fun _=>rfl) (bV P.gen x) nx 2 107 1)
end
def C3{a:Type}(q:a->Rl)(l:X a):Int:=match l.findIdx? q with
 |some i=>(i:Int)|none=>-1
theorem z8b{Y:Sg}{l:X dZ}{g:FuncId}{fn:Func}{cap:X U}{q:dZ->Rl}(r:tb.fn g=some fn)(k:fn.body.isSome=true)(x:l.length<=1000000)(s:∀a∈l,aT prog g (.agg (bW nm a)::cap) Y fun u d=>u=.bool (q a)/\d=Y):
  aT prog 102 [.iM (bW nm) l,.fn (.func g) [] cap] Y (fun u d=>u=.i6 (C3 q l)/\d=Y):=by
 refine eO 19 LV ?_;refine goN ?_;refine gL (fun m p d=>∃i:Nat,m=l.length-i/\i<=l.length/\(∀(j:Nat)(a:dZ),j<i->l[j]? = some a->q a=false)/\p=fr 19 [(0,.iM (bW nm) l),(1,.fn (.func g) [] cap),(7,.i6 l.length),(8,.i6 i)]/\d=Y) (fun p d=>C3 q l= -1/\p=fr 19 []/\d=Y) (l.length-0) ⟨0,rfl,qq _,fun j a c=>ag,rfl,rfl⟩ ?_ ?_<|zF _;rintro _ _ ⟨h,rfl,rfl⟩;refine goN ?_;exact DJ rfl rfl rfl (zF _) ⟨by rw[h],rfl⟩;rintro m _ _ ⟨i,rfl,w,n,rfl,rfl⟩;refine goN ?_;refine eD rfl (fun h=>?_) (fun h=>?_)
 ·have f:i<l.length:=by simpa using h
  obtain⟨a,e⟩:∃a,l[i]? = some a:=⟨l[i],hF f⟩;have t:aC l (i:Int)=some a:=by rw[aC,kh ⟨by omega,by omega⟩];simpa using e
  refine goN ?_;apply eX;refine goN ?_;refine dO t ?_;refine goN ?_;refine lT rfl (tJ rfl rfl r k rfl ca) (s a<|zX e) rfl rfl ?_;rintro _ _ ⟨rfl,rfl⟩;refine goN ?_;refine eD rfl (fun o=>?_) (fun o=>?_);refine goN ?_;refine DJ rfl rfl rfl (zF _) ⟨?_,rfl⟩;have:l.findIdx? q=some i:=by rw[qcm];refine⟨f,?_,fun j c=>?_⟩;rw[hF f]at e;cases e;exact o;have:=n j _ c<|hF ag;simp[this]
  rw[C3,this]
  ·refine goN ?_;have v:i64.wrap ((i:Int)+1)=((i+1:Nat):Int):=by rw[wrap_i64 ag ag];rfl
   refine⟨l.length-(i+1),_,_,by omega,⟨i+1,rfl,f,fun j b c k=>?_,rfl,rfl⟩,zF _,Gh.sub ?_⟩;obtain c |rfl:=Nat.lt_succ_iff_lt_or_eq.1 c;exact n j b c k;rw[e]at k;cases k;exact o
   ·rw[<-v];(repeat refine⟨rfl,?_⟩);exact trivial
 refine goN ?_;refine⟨_,_,⟨?_,rfl,rfl⟩,zF _,Gh.sub trivial⟩;have f:i=l.length:=by have:¬ (i:Int)<l.length:=(by simpa using h);omega
 have:l.findIdx? q=none:=by rw[QS];intro a e;obtain⟨j,c⟩:=mc e;exact n j a (by rw[f];exact(zG.1 c).1) c
 rw[C3,this]
theorem zb4{h:X (Nat×B)}{nx K:Nat}{y:dZ}(b:gt h K=some (.row (bW nm y) 107))(a:dZ):aT prog 103 (.agg (bW nm a)::[.ptr K 0 0]) ⟨h,nx⟩ (fun u d=>u=.bool (a.f==y.f)/\d=⟨h,nx⟩):=by
 refine aT.wf fun c _=>?_;have e:K<nx:=(c _ _ b).1
 haveI:ck nx (nx+1):=⟨rfl⟩
 haveI:fP ((nx,.row (bW nm a) 107)::h) K (.row [.i6 y.f,pt nm y.to] 107):=⟨by rw[jU e];exact b⟩
 refine eO 9 XH ?_;refine goN ?_;exact I_ c rfl rfl rfl (fun k g=>jU g) (Wt _) (by simp[aS]) ⟨rfl,rfl⟩
def cW(nm:Nat->Nat)(w:Nat×Nat):X U:=[pt nm w.1,pt nm w.2]
inductive WK(nm:Nat->Nat)(nx:Nat)(W:List (Nat×Nat))(u:U)(H:List (Nat×B)):Prop
 |vl (K st off:Nat) (xs:List (Nat×Nat)) (hu:u=.vl K st off W.length) (hg:gt H K=some (.bv (cW nm) xs 200 2 st)) (hx:xs.drop off=W) (ho:off<=xs.length) (hz:off=0\/W≠[]) (hK:nx<=K)
 |em (hu:u=.O true []) (hW:W=[])
variable{nm:Nat->Nat}{nx:Nat}{W:X (Nat×Nat)}{u:U}{H:X (Nat×B)}
theorem WK.len{N:Nat}(w:WK nm nx W u H):wP tb ⟨H,N⟩ 201 u=some (.int .i64 W.length):=by cases w with|vl K st off xs a c f e g d=>subst a;exact Ds mA.h c|em a b=>subst a;subst b;exact z0t (cW nm) mA.h (xs:=[])
theorem z9k{m:Nat}(h:1<=m):nQ m m (some<|.int .i64 1) none=some (1,m,m):=by have a:tO 1 (m+1)=true:=N5 ⟨by omega,by omega⟩;simp[nQ,y4,a]
variable{n:Nat}
theorem WK.cut{C:PG}(j:j0 C.prog tb){w:Nat×Nat}{N:Nat}{l:X (Nat×U)}{o:Oper}{x:Qo}(wk:WK nm nx (w::W) u H)(p:o.op=.slice 201 x (some<|.const<|.int .i64 1) none none)(t:bM n l x=some u):
  fI C ⟨H,N⟩ (fr n l) o (fun i y=>∃e K,y=⟨e,N⟩/\WK nm nx W i e/\nx<=K/\(∃q s,gt H K=some (.vec q 200 2 s))/\∀k,k≠K->gt e k=gt H k):=by
 cases wk with|em r z=>cases z|vl K st off xs r a d A G b=>
 subst r;have f:xs.length=off+(W.length+1):=by have:=congrArg List.length d;rw[oy]at this;simp at this;omega
 have E:(xs.map<|cW nm).flatten.length=xs.length*2:=FA (c:=cW nm) (fun _=>rfl) xs;have F:xs.drop (off+1)=W:=by have:=congrArg List.tail d;simpa[tail_drop]using this
 cases W with
 |nil=>refine(fI.BA j p mA.h (bG sE.h) (dF t) rfl a (by rw[E];simp at f;omega)).mono ?_;rintro i s (⟨rfl,rfl⟩|⟨rfl,rfl⟩);exact⟨_,K,rfl,.vl K (st+1) 0 [] rfl (by rw[bT,kh rfl,a];rfl) rfl (zF _) (.inl rfl) b,b,⟨_,_,a⟩,fun k g=>by rw[bT,iy<|Wv g]⟩;exact⟨_,K,rfl,.em rfl rfl,b,⟨_,_,a⟩,fun k g=>rfl⟩
 |cons v W=>
  have D:bH tb ⟨H,N⟩ (fr n l) o.op=some (.vl K st (off+1) (v::W).length,⟨H,N⟩):=by rw[p];refine F6 t rfl rfl ?_;have:=TM (Y:=⟨H,N⟩) (cW nm) mA.h (bG sE.h) (fun _=>rfl) (K:=K) (st:=st) (off:=off) (m:=(w::v::W).length) (xs:=xs) (e':=200) (by simp[oR,a,B.bv]) (by simp at f ⊢;omega)<|z9k ca;rw[this];simp
  refine(fI.op j D).mono ?_;rintro i s ⟨rfl,rfl⟩;exact⟨H,K,rfl,.vl K st (off+1) xs rfl a F (by simp at f;omega) (.inr ca) b,b,⟨_,_,a⟩,fun k g=>rfl⟩
def QF(g:Int)(p:Nat)(a:X dZ):X dZ->X (Nat×Nat)->X PN->A (X (Nat×Nat)×X PN)
 |[],W,N=>some (W,N)|y::b,W,N=>cond (decide (C3 (fun z=>z.f==y.f) a>=0)) (a8 (aC a<|C3 (fun z=>z.f==y.f) a) fun z=>aE (W.length<=1000000)<|QF g p a b (W++[(z.to,y.to)]) N) (a8 N[p]? fun x=>aE ((gW g x).length<=1000000)<|QF g p a b W<|N.set p { x with more:=gW g x++[y],L8:=g })
def MC(H:dK)(g:Int)(n:Nat):Nat->X (Nat×Nat)->X PN->A (Rl×X PN)
 |0,_,_=>none|_+1,[],N=>some (true,N)
 |m+1,w::W,N=>
  a8 (u9 N g n w.1) fun p=>
  a8 (u9 N g n w.2) fun q=>cond (Nat.beq p q) (MC H g n m W N) (a8 N[p]? fun x=>
   a8 N[q]? fun y=>
   a8 (FC n H (hX g x)<|hX g y) fun r=>cond (!r.2) (some (false,N)) (aE ((bV g x).length<=1000000/\(bV g y).length<=1000000) (a8 (QF g p (bV g x) (bV g y) W N) fun s=>
    a8 s.2[p]? fun a=>
    a8 (s.2.set p { a with mt:=r.1,b9:=g })[q]? fun b=>
    MC H g n m s.1 ((s.2.set p { a with mt:=r.1,b9:=g }).set q { b with fw:=some p,c3:=g }))))
section
variable{kp v st:Nat}{nm:Nat->Nat}{P:PP}{h:X (Nat×B)}{nx:Nat}{i:Nat}{x:PN}
theorem PH.rE(p:PH kp v st nm P h){y:PN}(l:P.N[i]? = some x)(C:lJ P.N.length y)(q:gt H (nm i)=some (.row (oV nm y) 103))(d:∀k b,gt h k=some b->k≠nm i->gt H k=some b):PH kp v st nm { P with N:=P.N.set i y } H:=by
 have f:i<P.N.length:=(zG.1 l).1;have g:=p.node i x l;refine⟨d _ _ p.b5 fun e=>?_,d _ _ p.roots fun e=>?_,fun j z c=>?_,fun a b s t=>p.inj a b (by simpa using s) (by simpa using t),fun z c=>?_,fun r A=>by simpa using p.rt r A⟩;have:=p.b5;rw[e,g]at this;simp at this;have:=p.roots;rw[e,g]at this;cases this;rw[mi]at c;by_cases e:i=j;subst e;rw[kh rfl,kh f]at c;cases c;exact q;rw[iy e]at c;have w:j<P.N.length:=(zG.1 c).1;exact d _ _ (p.node j z c) fun o=>e<|p.inj i j f w o.symm;have m:(P.N.set i y).length=P.N.length:=by simp
 show lJ (P.N.set i y).length z;rw[m];obtain c |rfl:=Gv c;exact p.wf z c;exact C
theorem PH.T6(p:PH kp v st nm P h){K:Nat}{q:X U}{s:Nat}(f:gt h K=some (.vec q 200 2 s))(d:∀k b,gt h k=some b->k≠K->gt H k=some b):PH kp v st nm P H:=by
 have a:∀k b,gt h k=some b->(∀q s,b≠.vec q 200 2 s)->gt H k=some b:=fun k b c g=>d k b c fun e=>by rw[e,f]at c;cases c;exact g _ _ rfl
 exact⟨a _ _ p.b5 ca,a _ _ p.roots (by simp[dQ]),fun i x j=>a _ _ (p.node i x j) ca,p.inj,p.wf,p.rt⟩
theorem PH.put(p:PH kp v st nm P h)(y:PN)(a:P.N[i]? = some x)(e:lJ P.N.length y):PH kp v st nm { P with N:=P.N.set i y } (ug h (nm i)<|.row (oV nm y) 103):=
 p.rE a e (by rw[bT,kh rfl,p.node i x a];rfl) fun k b c d=>by rw[bT,iy<|Wv d];exact c
theorem WK.T6{nx:Nat}(w:WK nm nx W u h)(b:∀k q s,gt h k=some (.vec q 200 2 s)->gt H k=some (.vec q 200 2 s)):WK nm nx W u H:=by cases w with|vl K st off l a e g f j c=>exact .vl K st off l a (b _ _ _ e) g f j c|em a d=>exact .em a d
theorem WK.put(p:PH kp v st nm P h){c:Nat}(w:WK nm c W u h)(d:P.N[i]? = some x)(b:B):WK nm c W u (ug h (nm i) b):=
 w.T6 fun k q s a=>by rw[bT,iy fun e=>?_];exact a;rw[<-e,p.node i x d]at a;cases a
theorem PH.more(p:PH kp v st nm P h)(a:∀k b,gt h k=some b->gt H k=some b):PH kp v st nm P H :=
 ⟨a _ _ p.b5,a _ _ p.roots,fun i x c=>a _ _<|p.node i x c,p.inj,p.wf,p.rt⟩
theorem PD{g:Int}(w:lJ n x):∀a∈bV g x,a.to<n:=fun a b=>by
 obtain b |b:=yD.1 b;exact w.D8 a b;unfold gW at b;rcases c:x.L8 != g with _|_;rw[c]at b;exact w.more a b;rw[c]at b;cases b
theorem QL{g:Int}(w:lJ n x):∀a∈gW g x,a.to<n:=fun a b=>PD (g:=g) w a (yD.2<|.inr b)
theorem Lm{nm:Nat->Nat}{M:Nat}(a:∀k,k<n->nm k<M):∀{o:A Nat},GC n o->aS M (po nm o)
 |none,_=>trivial|some i,h=>a i h
theorem WK.L5{nx:Nat}{M:Nat}(w:WK nm nx W u h)(c:oY ⟨h,M⟩):aS M u:=by cases w with|vl K st off k a b g f j d=>subst a;exact(c K _ b).1|em a e=>subst a;simp[aS,lL]
theorem gv{N:X PN}{g:Int}:∀{n i r:Nat},u9 N g n i=some r->∃x,N[r]? = some x
 |0,_,_,h=>by cases h
 |n+1,i,r,h=>by
  obtain⟨x,b,h⟩:=aK h;cases a:x.c3 != g with
  |true=>rw[a]at h;obtain rfl:=sI h;exact⟨x,b⟩
  |false=>rw[a]at h;obtain⟨q,_,h⟩:=aK h;exact gv h
theorem YL(p:PH kp v st nm P h)(n:Nat){a b:Nat}{r:Rl×X PN}(O:MC P.H P.gen n n [(a,b)] P.N=some r):
  aT prog 65 [.ptr kp 0 0,pt nm a,pt nm b] ⟨h,nx⟩ (fun u Y'=>∃H N,u=.bool r.1/\Y'=⟨H,N⟩/\PH kp v st nm { P with N:=r.2 } H/\r.2.length=P.N.length/\nx<=N/\∀k,k<nx->(∀i,i<P.N.length->nm i≠k)->gt H k=gt h k):=by
 refine aT.wf fun xH _=>?_;refine HV 129 jd ?_;refine goN ?_;refine RS.w (u:=.agg [pt nm a,pt nm b]) rfl (Bg (qs:=[(0,pt nm a),(1,pt nm b)]) rfl bD) ?_;refine goN ?_;refine RS.step (u:=.vl nx 0 0 1) (Y':=⟨(nx,.bv (cW nm) [(a,b)] 200 2 0)::h,nx+1⟩) rfl ?_ rfl rfl ?_;exact fI.kA (k:=1) (cs:=(List.map (cW nm) [(a,b)]).flatten) cf rfl mA.h sE.h rfl rfl rfl rfl rfl rfl rfl rfl;refine goN ?_;have p0:PH kp v st nm P ((nx,.bv (cW nm) [(a,b)] 200 2 0)::h):=p.more fun k b F=>by rw[jU (xH k b F).1];exact F
 refine gL (fun m tm Y=>∃W N uw H I,MC P.H P.gen n m W N=some r/\tm=fr 129 [(0,.ptr kp 0 0),(7,uw)]/\Y=⟨H,I⟩/\PH kp v st nm { P with N:=N } H/\WK nm nx W uw H/\N.length=P.N.length/\nx<=I/\∀k,k<nx->(∀i,i<P.N.length->nm i≠k)->gt H k=gt h k)
  (fun tm Y=>tm=fr 129 []/\r.1=true/\∃H I,Y=⟨H,I⟩/\PH kp v st nm { P with N:=r.2 } H/\r.2.length=P.N.length/\nx<=I/\∀k,k<nx->(∀i,i<P.N.length->nm i≠k)->gt H k=gt h k) n
  ⟨[(a,b)],P.N,.vl nx 0 0 1,_,_,O,rfl,rfl,p0,.vl nx 0 0 [(a,b)] rfl (by simp[aV]) rfl (qq _) (.inl rfl) (zF _),rfl,Wt _,fun k A _=>jU A⟩ ?_ ?_ (Wt _)
 rintro _ _ ⟨rfl,h1,H,I,rfl,h2,h3,h4,h5⟩;refine goN ?_;exact DJ rfl rfl rfl h4 ⟨H,I,by rw[h1],rfl,h2,h3,h4,h5⟩;rintro(_ |m) _ _ ⟨W,N,uw,H,I,O,rfl,rfl,hp,KD,aP,gY,eP⟩;cases O;refine goN ?_;refine RS.w rfl (H3 rfl rfl rfl KD.len) ?_;refine goN ?_;cases W with
 |nil=>obtain rfl:=sI O;refine eD rfl (fun h1=>by cases h1) (fun h1=>?_);refine goN ?_;exact⟨_,_,⟨rfl,rfl,H,I,rfl,hp,aP,gY,eP⟩,gY,Gh.sub trivial⟩
 |cons w W=>
 cases KD with|em hu hW=>cases hW|vl K bA off xs hu Z M ho hz hK=>
 subst hu;have mW:pD xs off (w::W).length 0=some w:=by rw[pD,kh ⟨by omega,by simp⟩];have:=congrArg (fun l=>l[0]?) M;simpa using this
 have hv:oR ⟨H,I⟩ K bA=some ((xs.map<|cW nm).flatten,200,2):=by simp[oR,Z,B.bv]
 have Fw:live ⟨H,I⟩ K bA=true:=by simp[live,Z,B.bv,B.st]
 refine eD rfl (fun h1=>?_) (fun h1=>by simp at h1);obtain⟨i,hi,j,hj,O⟩:=c6 O;refine goN ?_;apply eX;refine goN ?_;refine dE [] ?_;refine cX ?_;refine aQ rfl (eM rfl rfl (VV (cW nm) mA.h (bG sE.h) cg (fun _=>rfl) hv mW)) ?_;refine aQ (u:=.ptr K bA<|off*2+(0:Int).toNat*2+0) rfl (eM rfl rfl (Pr T8.h (bG jC.h) Fw ⟨by decide,by decide⟩ rfl)) ?_;refine aQ (u:=pt nm w.1) rfl (C8 (cW nm) i9.h rfl (fun _=>rfl) rfl Z mW rfl) (RD.call rfl (iE rfl zR rfl).2 (U9 hp n hi) rfl rfl ?_);refine cX ?_;refine aQ rfl (eM rfl rfl (VV (cW nm) mA.h (bG sE.h) cg (fun _=>rfl) hv mW)) ?_;refine aQ (u:=.ptr K bA<|off*2+(0:Int).toNat*2+1) rfl (eM rfl rfl (Pr T8.h (bG jC.h) Fw ⟨by decide,by decide⟩ rfl)) ?_;refine aQ (u:=pt nm w.2) rfl (C8 (cW nm) i9.h rfl (fun _=>rfl) rfl Z mW rfl) (RD.call rfl (iE rfl zR rfl).2 (U9 hp n hj) rfl rfl ?_);refine cX ?_;refine bC ⟨by kernel_rfl,trivial,?_⟩;refine goN ?_;refine EP rfl (WK.cut cf (.vl K bA off xs rfl Z M ho hz hK) rfl rfl) ?_;rintro uw _ ⟨H',K',rfl,KD,hK',⟨q',s',og⟩,oI⟩;have J:=hp.T6 og (fun k b F A=>by rw[oI k A];exact F);have Gl:∀k,k<nx->(∀i,i<P.N.length->nm i≠k)->gt H' k=gt h k:=fun k A L=>by rw[oI k ag,eP k A L]
 clear eP oI og Z M ho hz mW hv Fw hp;obtain⟨x,M⟩:=gv hi;obtain⟨y,hy⟩:=gv hj;have nJ:i<N.length:=(zG.1 M).1;have iV:j<N.length:=(zG.1 hy).1;have yY:Nat.beq (nm i) (nm j)=Nat.beq i j:=by rw[beq_eq,beq_eq];by_cases e:i=j;simp[e];have:nm i≠nm j:=fun h=>e<|J.inj i j nJ iV h;simp[e,this]
 refine goN ?_;refine EP rfl (fI.peq cf rfl (.inl rfl) i9.h (bG nF.h) (dF rfl) (dF rfl) (J.node i x M) (J.node j y hy)) ?_;rintro _ _ ⟨rfl,rfl⟩;refine goN ?_;refine eD rfl (fun h2=>?_) (fun h2=>?_)
 ·rw[kh rfl,yY]at h2;rw[h2]at O;refine goN ?_;exact⟨m,_,_,zN _,⟨W,N,uw,H',I,O,rfl,rfl,J,KD,aP,gY,Gl⟩,gY,Gh.sub<|by((repeat refine⟨rfl,?_⟩);exact trivial)⟩
 rw[kh rfl,yY]at h2;rw[h2]at O;obtain⟨x',xG,O⟩:=aK O;rw[M]at xG;cases xG;obtain⟨y',qA,O⟩:=aK O;rw[hy]at qA;cases qA;obtain⟨r1,vJ,O⟩:=aK O
 haveI:=J.gp
 refine goN ?_;refine dE [] ?_;refine cX ?_;refine RD.call rfl (iE rfl zP rfl).2 (Sw J M) rfl rfl ?_;refine cX ?_;refine RD.call rfl (iE rfl zP rfl).2 (Sw J hy) rfl rfl ?_;refine cX ?_;refine eA rfl (pC<|qm2 n P.H _ _ r1 vJ) Hu ?_;refine cX ?_;refine bC ⟨by kernel_rfl,trivial,?_⟩;refine goN ?_;refine eD rfl (fun h3=>?_) (fun h3=>?_);rw[h3]at O;obtain rfl:=sI O;refine goN ?_;exact DJ rfl rfl rfl gY ⟨H',I,rfl,rfl,J,aP,gY,Gl⟩;rw[h3]at O;obtain⟨⟨tQ,QV⟩,O⟩:=bY O;obtain⟨s,hs,O⟩:=aK O;have nk:∀a∈bV P.gen y,a.to<P.N.length:=by rw[<-aP];exact PD (J.wf y<|zX hy)
 refine goN ?_;refine aM rfl (qtg J M tQ) G5 ?_;refine goN ?_;refine aM rfl (qtg J hy QV) G5 ?_;refine goN ?_;refine gL (fun m tm Y=>∃(t:Nat)(W1:X (Nat×Nat))(N2:X PN)(S:U)(C:X (Nat×B))(g:Nat),m=(bV P.gen y).length-t/\t<=(bV P.gen y).length/\QF P.gen i (bV P.gen x) ((bV P.gen y).drop t) W1 N2=some s/\tm=fr 129 [(0,.ptr kp 0 0),(7,S),(8,pt nm i),(9,pt nm j),(10,.i6 r1.1),(12,.iM (bW nm)<|bV P.gen x),(63,.iM (bW nm)<|bV P.gen y),(64,.i6 (bV P.gen y).length),(65,.i6 t)]/\Y=⟨C,g⟩/\PH kp v st nm { P with N:=N2 } C/\WK nm nx W1 S C/\N2.length=P.N.length/\nx<=g/\∀k,k<nx->(∀i,i<P.N.length->nm i≠k)->gt C k=gt h k)
  (fun tm Y=>∃(S:U)(C:X (Nat×B))(g:Nat),tm=fr 129 [(0,.ptr kp 0 0),(7,S),(8,pt nm i),(9,pt nm j),(10,.i6 r1.1)]/\Y=⟨C,g⟩/\PH kp v st nm { P with N:=s.2 } C/\WK nm nx s.1 S C/\s.2.length=P.N.length/\nx<=g/\∀k,k<nx->(∀i,i<P.N.length->nm i≠k)->gt C k=gt h k) (bV P.gen y).length
  ⟨0,W,N,uw,H',I,rfl,qq _,hs,rfl,rfl,J,KD,aP,gY,Gl⟩ ?_ ?_ gY
 ·rintro _ _ ⟨S,C,g,rfl,rfl,D,CP,nH,yP,yU⟩;obtain⟨x1,Ev,y1,Et,O⟩:=c6 O
  haveI:=D.gp
  haveI:=D.gn Ev
  refine goN ?_;have G:=D.wf x1<|zX Ev;have oJ:=D.put { x1 with mt:=r1.1,b9:=P.gen } Ev ⟨G.D8,G.fw,G.more,G.cp⟩;have Zc:=WK.put D CP Ev<|.row (oV nm { x1 with mt:=r1.1,b9:=P.gen }) 103;change RU _ _ _ _ _ (Sg.mk (ug C (nm i)<|.row (oV nm { x1 with mt:=r1.1,b9:=P.gen }) 103) g) _
  haveI:=oJ.gp
  haveI:=oJ.gn Et
  refine goN ?_;have o7:=oJ.wf y1<|zX Et;have Fm:=oJ.put { y1 with fw:=some i,c3:=P.gen } Et ⟨o7.D8,by show i<_;simp;rw[nH,<-aP];exact nJ,o7.more,o7.cp⟩;have hwk3:=WK.put oJ Zc Et<|.row (oV nm { y1 with fw:=some i,c3:=P.gen }) 103;refine⟨m,_,_,zN _,⟨s.1,_,S,_,g,O,rfl,rfl,Fm,hwk3,by simp[nH],yP,fun k A L=>?_⟩,yP,Gh.sub<|by((repeat refine⟨rfl,?_⟩);exact trivial)⟩;rw[bT,iy (L j (by rw[<-aP];exact iV)),bT,iy<|L i (by rw[<-aP];exact nJ)];exact yU k A L
 rintro _ _ _ ⟨t,W1,N2,S,C,g,rfl,ht,E,rfl,rfl,D,CP,nH,yP,yU⟩;refine goN ?_;refine eD rfl (fun h4=>?_) (fun h4=>?_)
 ·have eT:t<(bV P.gen y).length:=by simpa using h4
  obtain⟨o,VZ⟩:∃a,(bV P.gen y)[t]? = some a:=⟨_,hF eT⟩;have m5:aC (bV P.gen y) (t:Int)=some o:=by rw[aC,kh ⟨by omega,by omega⟩];simpa using VZ
  have tS:(bV P.gen y).drop t=o::(bV P.gen y).drop (t+1):=by rw[Xk eT];rw[hF eT]at VZ;cases VZ;rfl
  rw[tS]at E;refine I6.wf fun G b_=>?_
  haveI:ck g (g+1):=⟨rfl⟩
  haveI:ck (g+1) (g+2):=⟨rfl⟩
  refine goN ?_;apply eX;refine goN ?_;refine dO m5 ?_;refine goN ?_;refine RS.w rfl (La rfl rfl) ?_;refine aM rfl (z8b XH rfl tQ (fun a _=>zb4 (y:=o) (by simp[aV]) a)) LV ?_;refine goN ?_;have hH:∀k b,gt C k=some b->gt ((g,.row (bW nm o) 107)::C) k=some b:=fun k b F=>by rw[jU (G k b F).1];exact F
  have oJ:=D.more hH;have Zc:=CP.T6 fun k q s A=>hH k _ A;change cond (decide (C3 (fun z=>z.f==o.f) (bV P.gen x)>=0)) _ _=some s at E;refine eD rfl (fun h5=>?_) (fun h5=>?_)
  ·rw[h5]at E;obtain⟨z,hz,E⟩:=aK E;obtain⟨hWl,E⟩:=bY E;refine goN ?_;cases CP with
   |vl K bA off xs hu Z M ho Yz hK=>
    subst hu;have hKM:K<g:=(G K _ Z).1;have wC:gt ((g+1,.row [pt nm z.to,pt nm o.to] 200)::(g,.row (bW nm o) 107)::C) K=some (.vec (xs.map<|cW nm).flatten 200 2 bA):=by rw[aV,iy ag,aV,iy ag];exact Z
    refine dE [(0,9)] ?_;refine cX ?_;refine iR hz ?_;refine cX ?_;refine aQ (u:=.agg [pt nm z.to,pt nm o.to]) rfl (Bg (qs:=[(0,pt nm z.to),(1,pt nm o.to)]) rfl bD) ?_;refine dS ?_;refine RD.act rfl (rG rfl rfl rfl rfl (Jj (cW nm) [(z.to,o.to)] mA.h mA.h sE.h rfl (fun _=>rfl) wC M ho Yz ca (DM (cW nm) [(z.to,o.to)] (q:=[pt nm z.to,pt nm o.to]) (by simp[rowOf,aV]) rfl rfl rfl) ⟨by simp;omega,by simp;omega⟩)) rfl rfl ?_;refine cX ?_;refine bC ⟨by kernel_rfl,⟨kN rfl,trivial⟩,?_⟩;refine goN ?_;refine⟨(bV P.gen y).length-(t+1),_,_,by omega,⟨t+1,W1++[(z.to,o.to)],N2,.vl K (bA+1) 0 (W1++[(z.to,o.to)]).length,_,g+2,rfl,eT,E,rfl,rfl,?_,?_,nH,by omega,?_⟩,by show nx<=g+2;omega,Gh.sub ?_⟩;refine D.T6 Z fun k b F A=>?_;have:k<g:=(G k b F).1;rw[bT,iy<|Wv A,aV,iy ag,aV,iy ag];exact F;exact .vl K (bA+1) 0 (W1++[(z.to,o.to)]) rfl (by rw[bT,kh rfl,wC];rfl) rfl (qq _) (.inl rfl) hK;intro k A L;rw[bT,iy ag,aV,iy ag,aV,iy ag];exact yU k A L
    ·have mG:i64.wrap ((t:Int)+1)=((t+1:Nat):Int):=by rw[wrap_i64 ag ag];rfl
     rw[<-mG];(repeat refine⟨rfl,?_⟩);exact trivial
   |em hu hW=>
    subst hu;subst hW
    haveI:ck (g+2) (g+3):=⟨rfl⟩
    refine dE [(0,9)] ?_;refine cX ?_;refine iR hz ?_;refine cX ?_;refine aQ (u:=.agg [pt nm z.to,pt nm o.to]) rfl (Bg (qs:=[(0,pt nm z.to),(1,pt nm o.to)]) rfl bD) ?_;refine dS ?_;refine RD.act rfl (rG rfl rfl rfl rfl (z4s (cW nm) [(z.to,o.to)] mA.h mA.h sE.h rfl (DM (cW nm) [(z.to,o.to)] (q:=[pt nm z.to,pt nm o.to]) (by simp[rowOf,aV]) rfl rfl rfl) ca ⟨by simp,by simp⟩)) rfl rfl ?_;refine cX ?_;refine bC ⟨by kernel_rfl,⟨kN rfl,trivial⟩,?_⟩;refine goN ?_;refine⟨(bV P.gen y).length-(t+1),_,_,by omega,⟨t+1,[]++[(z.to,o.to)],N2,.vl (g+2) 0 0 ([]++[(z.to,o.to)]).length,_,g+3,rfl,eT,E,rfl,rfl,?_,?_,nH,by omega,?_⟩,by show nx<=g+3;omega,Gh.sub ?_⟩;refine D.more fun k b F=>?_;have:k<g:=(G k b F).1;show gt ((g+2,_)::(g+1,_)::(g,_)::C) k=some b;rw[aV,iy ag,aV,iy ag,aV,iy ag];exact F;exact .vl (g+2) 0 0 [(z.to,o.to)] rfl (by simp[cc,aV]) rfl (qq _) (.inl rfl) ag;intro k A L;show gt ((g+2,_)::(g+1,_)::(g,_)::C) k=_;rw[aV,iy ag,aV,iy ag,aV,iy ag];exact yU k A L
    ·have mG:i64.wrap ((t:Int)+1)=((t+1:Nat):Int):=by rw[wrap_i64 ag ag];rfl
     rw[<-mG];(repeat refine⟨rfl,?_⟩);exact trivial
  ·rw[h5]at E;obtain⟨Q,yJ,E⟩:=aK E;obtain⟨w9,E⟩:=bY E
   haveI:=oJ.gp
   haveI:=oJ.gn yJ
   refine goN ?_;refine dE [] ?_;refine cX ?_;refine eA rfl (fun s=>S2 s nm Q.more Q.L8 P.gen) AA ?_;refine cX ?_;refine bC ⟨by kernel_rfl,trivial,?_⟩;refine goN ?_;have hN:∀k,k<P.N.length->nm k<g:=fun k A=>(G _ _<|D.node k _<|hF (by show k<N2.length;omega)).1;have uF:kp<g:=(G _ _ D.b5).1;have E8:=hN i ag;have nq:∀{a b:Nat},b<a->Nq a b:=fun h=>⟨by rw[beq_eq];simp;omega⟩
   haveI:Nq g kp:=nq uF
   haveI:Nq (g+1) kp:=nq ag
   haveI:Nq g (nm i):=nq E8
   haveI:Nq (g+1) (nm i):=nq ag
   haveI:Nq (g+1) g:=nq ag
   haveI:=D.gp
   haveI:=D.gn yJ
   refine dE [(0,2),(0,5),(3,2),(6,2),(6,5),(7,2),(7,5),(8,2),(8,5),(9,2),(9,5)] ?_;refine cX ?_;refine D7 rfl (iE rfl EK rfl).2 (qp2 _ _ nm (gW P.gen Q) w9) rfl rfl ?_;refine cX ?_;refine RD.l_ rfl (uY.bp (cs:=bW nm o) ES.h DY.h rfl rfl rfl rfl rfl rfl rfl (fun m h=>by simpa only[aS]using h)) rfl rfl ?_;refine RD.act rfl (vS (c:=bW nm) (xs:=gW P.gen Q) (ys:=[o]) rfl rfl rfl rfl rfl rfl rfl rfl ⟨by simp;omega,by simp;omega⟩) rfl rfl ?_;refine cX ?_;refine tC ?_;refine bC ⟨by kernel_rfl,⟨P0,P0,P0,P0,P0,P0,P0,P0,P0,P0,P0,trivial⟩,?_⟩;refine goN ?_;have EF:∀k,k<P.N.length->nm k<g+1:=fun k A=>Xm<|hN k A;have fQ:=D.wf Q<|zX yJ;have qD:(show PP from{ P with N:=N2 }).N.length=P.N.length:=nH;rw[qD]at fQ;have hgK:∀(b:B)(H:X (Nat×B)),gt ((g+1,b)::H) (g+1)=some b:=fun b H=>by simp[aV]
   have T:∀(b c d:B)(k:Nat),k<g->k≠nm i->gt (dA (g+1) b 2 ((g+1,b)::(g,c)::ug C (nm i) d)) k=gt C k:=fun b c d k A nI=>by rw[J7,iy ag,aV,iy ag,aV,iy ag,bT,iy<|Wv nI];rcases hq:gt C k with _|b';rfl;simp only[zM];rw[Lx _ _<|Ma (Wt g) (G k b' hq).2]
   have gtni:∀(b c:B)(R:X U),gt (dA (g+1) b 2 ((g+1,b)::(g,c)::ug C (nm i) (.row R 103))) (nm i)=some (.row (k9 (g+1) b 2 R) 103):=fun b c R=>by rw[J7,iy ag,aV,iy ag,aV,iy ag,bT,kh rfl,D.node i Q yJ];rfl
   refine⟨(bV P.gen y).length-(t+1),fr 129 [(0,.ptr kp 0 0),(7,S),(8,pt nm i),(9,pt nm j),(10,.i6 r1.1),(12,.iM (bW nm)<|bV P.gen x),(63,.iM (bW nm)<|bV P.gen y),(64,.i6 (bV P.gen y).length),(65,.i6 ((t+1:Nat):Int))],⟨dA (g+1) (.bv (bW nm) (gW P.gen Q++[o]) 107 2 1) 2 _,g+1+1⟩,by omega,⟨t+1,W1,N2.set i { Q with more:=gW P.gen Q++[o],L8:=P.gen },S,_,g+1+1,rfl,eT,E,rfl,rfl,?_,?_,by simp[nH],by omega,?_⟩,by show nx<=g+1+1;omega,Gh.trans (Gh.sub ?_)<|Gh.fz (g+1) (.bv (bW nm) (gW P.gen Q++[o]) 107 2 1) 2 (hgK _ _) nofun (sA _ _ _<|Sy ?_) rfl⟩;refine D.rE yJ ⟨?_,?_,?_,?_⟩ ((gtni _ _ _).trans ?_) fun k b F A=>(T _ _ _ k (G k b F).1 A).trans F;rw[qD];exact fQ.D8;rw[qD];exact fQ.fw;rw[qD];intro a V;obtain V |V:=yD.1 V
   exact QL fQ a V;simp at V;subst V;exact nk a<|zX VZ;rw[qD];exact fQ.cp;have e1:=J1 (c:=bW nm) (sz:=2) (fun _=>rfl) (gW P.gen Q++[o]) (g+1) 2 107 1;simp only[F9,JB,J9,J8,JA,N6 _ _ _<|Lm EF fQ.fw,N6 _ _ _<|Lm EF fQ.cp];rw[e1];rfl;refine CP.T6 fun k q s A=>(T _ _ _ k (G k _ A).1 fun e=>?_).trans A;rw[e,D.node i Q yJ]at A;cases A;intro k A L;exact(T _ _ _ k ag<|Wv<|L i ag).trans (yU k A L)
   ·have mG:i64.wrap ((t:Int)+1)=((t+1:Nat):Int):=by rw[wrap_i64 ag ag];rfl
    rw[<-mG];(repeat refine⟨rfl,?_⟩);exact trivial
   simp only[ej,aS,X1,di];exact⟨by omega,aS.le (Wt g) _<|CP.L5 G,by omega,EF j ag,Mn _ fun a V=>EF _ (by rw[<-aP];exact PD (J.wf x<|zX M) a V),Mn _ fun a V=>EF _<|nk a V⟩
 ·refine goN ?_;have eT:t=(bV P.gen y).length:=by
   have:¬ (t:Int)<(bV P.gen y).length:=by simpa using h4
   omega
  subst eT;rw[uO]at E;obtain rfl:=sI E;exact⟨_,_,⟨S,C,g,rfl,rfl,D,CP,nH,yP,yU⟩,yP,Gh.sub<|by((repeat refine⟨rfl,?_⟩);exact trivial)⟩
end
def TV(N:X PN)(g:Int)(n:Nat):X dZ->X Nat->A (X Nat)
 |[],out=>some out|a::l,out=>a8 (u9 N g n a.to) fun q=>cond (out.contains q) (TV N g n l out) (aE (out.length<=1000000)<|TV N g n l<|out++[q])
def zo(N:X PN)(g:Int)(n:Nat):Nat->Nat->X Nat->A (X Nat)
 |0,_,_=>none|m+1,i,out=>cond (decide (i<out.length)) (a8 out[i]? fun p=>a8 N[p]? fun x=>aE ((bV g x).length<=1000000/\out.length<=1000000)<|a8 (TV N g n (bV g x) out) fun o=>zo N g n m (i+1) o) (some out)
def HU(nm:Nat->Nat)(s:Nat)(out:X Nat):X (Nat×U×Nat):=(out.zipIdx s).map fun p=>(nm p.1,.bool true,p.2)
theorem z9z(nm:Nat->Nat)(s:Nat)(out:X Nat)(q:Nat):HU nm s (out++[q])=HU nm s out++[(nm q,.bool true,s+out.length)]:=by simp[HU,zipIdx_append]
theorem quc{nm:Nat->Nat}{n:Nat}(a:∀i j,i<n->j<n->nm i=nm j->i=j){q:Nat}(b:q<n):∀(out:X Nat)(s:Nat),(∀k∈out,k<n)->xF (nm q) (HU nm s out)=cond (out.contains q) (some<|.bool true) none
 |[],s,_=>rfl|k::out,s,h=>by
  have c:=quc a b out (s+1) fun k g=>h k (by simp[g]);simp only[HU,QI,zQ,xF]at c ⊢;rw[c,contains_cons];by_cases e:q=k;subst e;simp[beq_eq];have:nm k≠nm q:=fun f=>e<|a q k b (h k ca) f.symm;have d:(q==k)=false:=by simpa using e
  simp[beq_eq,this,d]
theorem W!{nm:Nat->Nat}{h:X (Nat×B)}{n:Nat}(d:∀i,i<n->c_ h (nm i)):∀(out:X Nat)(s:Nat),(∀k∈out,k<n)->∀e∈HU nm s out,c_ h e.1:=fun out s b e a=>by
 simp only[HU,gf]at a;obtain⟨p,c,rfl⟩:=a;exact d _ (b _<|JK c)
section
variable{kp f st:Nat}{nm:Nat->Nat}{P:PP}{h:X (Nat×B)}{nx:Nat}
theorem PH.row(p:PH kp f st nm P h):∀i,i<P.N.length->c_ h (nm i):=fun i a=>⟨_,_,p.node i _<|hF a⟩
theorem pe{N:X PN}{g:Int}{n i r:Nat}(h:u9 N g n i=some r):r<N.length:=by obtain⟨x,a⟩:=gv h;exact(zG.1 a).1
structure Jm(kp f st:Nat)(nm:Nat->Nat)(P:PP)(h:X (Nat×B))(nx:Nat)(out:X Nat)(Ks Ko so:Nat)(H:X (Nat×B))(M:Nat):Prop where
 mp:gt H Ks=some (.map ((HU nm 0 out).map pE) out.length)
 vc:gt H Ko=some (.bv (dQ nm) out 92 1 so)
 ks:nx<=Ks
 ko:nx<=Ko
 W3:∀k,k<nx->gt H k=gt h k
 le:nx<=M
 lt:∀k∈out,k<P.N.length
theorem Jm.ph{out:X Nat}{d c g M:Nat}{H:X (Nat×B)}(r:Jm kp f st nm P h nx out d c g H M)(p:PH kp f st nm P h)(e:oY ⟨h,nx⟩):PH kp f st nm P H:=p.more fun k b a=>by rw[r.W3 k (e k b a).1];exact a
theorem z6v(p:PH kp f st nm P h)(n:Nat){i:Nat}(hi:i<P.N.length){out:X Nat}(O:zo P.N P.gen n n 0 [i]=some out):
  aT prog 67 [.ptr kp 0 0,pt nm i] ⟨h,nx⟩ (fun u Y'=>u=.iM (dQ nm) out/\Y'=⟨h,nx⟩):=by
 refine aT.wf fun I _=>?_
 haveI:ck nx (nx+1):=⟨rfl⟩
 haveI:ck (nx+1) (nx+2):=⟨rfl⟩
 refine eO 49 jb ?_;refine goN ?_;refine RS.w rfl OV ?_;refine goN ?_;have h1:∀(b:B),∀k c,gt h k=some c->gt ((nx,b)::h) k=some c:=fun b k c C=>by rw[jU (I k c C).1];exact C
 refine RS.nS rfl (fI.pins cf (es:=[]) (cl:=0) (v:=.bool true) (.inr rfl) IC.h i9.h (bG nF.h) (dF rfl) (dF rfl) (dF rfl) (by simp[cc,aV]) (W! (p.more<|h1 _).row [i] 0 (by simpa using hi) (nm i,.bool true,0) (by simp[HU])) ca rfl) ?_;rintro _ _ ⟨rfl,rfl⟩;refine goN ?_;refine EP rfl (fI.kA (k:=1) (cs:=(List.map (dQ nm) [i]).flatten) (qs:=[(0,pt nm i)]) cf rfl iA.h jC.h (uo rfl) rfl rfl rfl rfl rfl rfl rfl) ?_;rintro _ _ ⟨rfl,rfl⟩;refine goN ?_;have O8:∀(b c d:B)(k:Nat),k<nx->gt ((nx+1,b)::ug ((nx,c)::h) nx d) k=gt h k:=fun b c d k y=>by rw[aV,iy ag,bT,iy ag,aV,iy ag]
 refine gL (fun m G Y=>∃(t:Nat)(o:X Nat)(s:Nat)(H:X (Nat×B))(M:Nat),zo P.N P.gen n m t o=some out/\G=fr 49 [(0,.ptr kp 0 0),(5,.map nx),(6,.vl (nx+1) s 0 o.length),(7,.i6 t)]/\t<=o.length/\Y=⟨H,M⟩/\Jm kp f st nm P h nx o nx (nx+1) s H M)
  (fun G Y=>∃(s:Nat)(H:X (Nat×B))(M:Nat),G=fr 49 [(6,.vl (nx+1) s 0 out.length)]/\Y=⟨H,M⟩/\Jm kp f st nm P h nx out nx (nx+1) s H M) n
  ⟨0,[i],0,_,nx+2,O,rfl,qq _,rfl,⟨by show gt ((nx+1,_)::ug ((nx,_)::h) nx _) nx=_;rw[aV,iy ag,bT,kh rfl];simp[aV,HU],by simp[cc,aV,B.bv],zF _,Wt _,fun k y=>O8 _ _ _ k y,by omega,by simpa using hi⟩⟩ ?_ ?_ (by show nx<=nx+2;omega)
 rintro _ _ ⟨s,H,M,rfl,rfl,z⟩;refine goN ?_;refine⟨.inr rfl,_,eL rfl eB,.iM (dQ nm) out,⟨h,nx⟩,zF _,yp (c:=dQ nm) (xs:=out) (e:=92) (sz:=1) (K:=nx+1) (st:=s) I (Wt _) z.vc z.W3 z.le (tm':=[.iM (dQ nm) out]) ?_ ?_<|zF _,rfl,rfl⟩;exact congrArg (fun u=>[u])<|J1 (c:=dQ nm) (sz:=1) (fun _=>rfl) out (nx+1) 1 92 s;simp only[aG,aS,X1];rw[Mp];intro c C;obtain⟨a,S,rfl⟩:=mem_map.1 C;simp only[dQ,pt,aG,aS,X1];exact p.lt I<|z.lt a S;rintro(_ |m) _ _ ⟨t,o,s,H,M,O,rfl,ht,rfl,z⟩;cases O;have hp:=z.ph p I;refine goN ?_;refine RS.w rfl (H3 rfl rfl rfl (uh iA.h z.vc)) ?_;refine goN ?_;refine eD rfl (fun h2=>?_) (fun h2=>?_)
 ·have kR:t<o.length:=by simpa using h2
  change cond (decide (t<o.length)) _ _=some out at O;rw[jl kR]at O;obtain⟨q,hq,x,hx,O⟩:=c6 O;obtain⟨⟨hl,FY⟩,O⟩:=bY O;obtain⟨Z,Zz,O⟩:=aK O;have m5:aC o (t:Int)=some q:=by rw[aC,kh ⟨by omega,by omega⟩];simpa using hq
  have hv:oR ⟨H,M⟩ (nx+1) s=some ((o.map<|dQ nm).flatten,92,1):=by simp[oR,z.vc,B.bv]
  refine goN ?_;apply eX;refine goN ?_;refine RS.w rfl (eM rfl rfl (jS (dQ nm) iA.h (bG jC.h) cg (fun _=>rfl) hv m5)) ?_;refine RS.w rfl (CF (dQ nm) (pt nm) i9.h rfl (fun _=>rfl) rfl z.vc m5) (aM rfl (qtg hp hx hl) G5 ?_);refine goN ?_;refine gL (fun m G Y=>∃(j:Nat)(r:X Nat)(s:Nat)(H:X (Nat×B))(M:Nat),m=(bV P.gen x).length-j/\j<=(bV P.gen x).length/\TV P.N P.gen n ((bV P.gen x).drop j) r=some Z/\t<r.length/\G=fr 49 [(0,.ptr kp 0 0),(5,.map nx),(6,.vl (nx+1) s 0 r.length),(7,.i6 t),(27,.iM (bW nm)<|bV P.gen x),(28,.i6 (bV P.gen x).length),(29,.i6 j)]/\Y=⟨H,M⟩/\Jm kp f st nm P h nx r nx (nx+1) s H M)
   (fun G Y=>∃(s:Nat)(H:X (Nat×B))(M:Nat),G=fr 49 [(0,.ptr kp 0 0),(5,.map nx),(6,.vl (nx+1) s 0 Z.length),(7,.i6 t)]/\t<Z.length/\Y=⟨H,M⟩/\Jm kp f st nm P h nx Z nx (nx+1) s H M) (bV P.gen x).length
   ⟨0,o,s,H,M,rfl,qq _,Zz,kR,rfl,rfl,z⟩ ?_ ?_ z.le
  ·rintro _ _ ⟨so2,H2,M2,rfl,V,rfl,T⟩;refine goN ?_;have mG:i64.wrap ((t:Int)+1)=((t+1:Nat):Int):=by rw[wrap_i64 ag ag];rfl
   refine⟨m,_,_,zN _,⟨t+1,Z,so2,H2,M2,O,rfl,V,rfl,T⟩,T.le,Gh.sub ?_⟩;rw[<-mG];(repeat refine⟨rfl,?_⟩);exact trivial
  rintro _ _ _ ⟨j,r,Q,E,l,rfl,hj,A,Zj,rfl,rfl,g⟩;have jN:=g.ph p I;refine I6.wf fun fM _=>?_
  haveI:ck l (l+1):=⟨rfl⟩
  haveI:ck (l+1) (l+2):=⟨rfl⟩
  refine goN ?_;refine eD rfl (fun h4=>?_) (fun h4=>?_)
  ·have F:j<(bV P.gen x).length:=by simpa using h4
   obtain⟨a,S⟩:∃a,(bV P.gen x)[j]? = some a:=⟨_,hF F⟩;have m5:aC (bV P.gen x) (j:Int)=some a:=by rw[aC,kh ⟨by omega,by omega⟩];simpa using S
   have tS:(bV P.gen x).drop j=a::(bV P.gen x).drop (j+1):=by rw[Xk F];rw[hF F]at S;cases S;rfl
   have mG:i64.wrap ((j:Int)+1)=((j+1:Nat):Int):=by rw[wrap_i64 ag ag];rfl
   rw[tS]at A;obtain⟨q1,w6,A⟩:=aK A;have L:=pe w6;have hH:∀(b:B),∀k c,gt E k=some c->gt ((l,b)::E) k=some c:=fun b k c C=>by rw[jU (fM k c C).1];exact C
   have D:Jm kp f st nm P h nx r nx (nx+1) Q ((l,.row (bW nm a) 107)::E) (l+1):=⟨hH _ _ _ g.mp,hH _ _ _ g.vc,g.ks,g.ko,fun k y=>by rw[jU<|Xj y g.le];exact g.W3 k y,XK g.le,g.lt⟩;have J:=D.ph p I;refine goN ?_;apply eX;refine goN ?_;refine dO m5 ?_;refine goN ?_;refine aM rfl (U9 J n w6) zR ?_;refine goN ?_;refine EP rfl (fI.nO cf (zu:=.bool false) rfl IC.h i9.h (bG nF.h) if4.h rfl (dF rfl) (dF rfl) D.mp (J.row q1 L) (W! J.row r 0 g.lt)) ?_;rintro _ _ ⟨rfl,rfl⟩;rw[quc p.inj L r 0 g.lt];cases C:r.contains q1 with
   |true=>rw[C]at A;refine goN ?_;refine eD rfl (fun R=>by cases R) (fun R=>?_);refine goN ?_;refine⟨(bV P.gen x).length-(j+1),_,_,by omega,⟨j+1,r,Q,_,l+1,rfl,F,A,Zj,rfl,rfl,D⟩,D.le,Gh.sub ?_⟩;rw[<-mG];(repeat refine⟨rfl,?_⟩);exact trivial|false=>
    rw[C]at A;obtain⟨hol1,A⟩:=bY A;refine goN ?_;refine eD rfl (fun R=>?_) (fun R=>by cases R);refine goN ?_;have O6:nx+1<l:=(fM _ _ g.vc).1;refine RS.nS rfl (fI.pins cf (v:=.bool true) (.inl rfl) IC.h i9.h (bG nF.h) (dF rfl) (dF rfl) (dF rfl) D.mp (J.row q1 L) (W! J.row r 0 g.lt) (by rw[quc p.inj L r 0 g.lt,C];rfl)) ?_;rintro _ _ ⟨rfl,rfl⟩;change RU _ _ _ _ _ (Sg.mk (ug ((l,.row (bW nm a) 107)::E) nx<|.map ((HU nm 0 r++[(nm q1,U.bool true,r.length)]).map pE)<|r.length+1)<|l+1) _;refine goN ?_;refine cE ?_;have qz:gt ((l+1,.row [pt nm q1] 92)::ug ((l,.row (bW nm a) 107)::E) nx (.map ((HU nm 0 r++[(nm q1,U.bool true,r.length)]).map pE)<|r.length+1)) (nx+1)=some (.vec (r.map<|dQ nm).flatten 92 1 Q):=by rw[aV,iy ag,bT,iy ag];exact D.vc
    refine RS.w rfl (rG rfl rfl rfl rfl (CE (dQ nm) [q1] iA.h iA.h jC.h rfl (fun _=>rfl) qz (DM (dQ nm) [q1] (q:=[pt nm q1]) (by simp[rowOf,aV]) rfl rfl rfl) ⟨by simp;omega,by simp;omega⟩)) ?_;refine goN ?_;refine⟨(bV P.gen x).length-(j+1),_,_,by omega,⟨j+1,r++[q1],Q+1,_,l+2,rfl,F,A,by simp;omega,rfl,rfl,⟨?_,?_,zF _,Wt _,fun k y=>?_,by omega,?_⟩⟩,by show nx<=l+2;omega,Gh.sub ?_⟩;rw[bT,iy ag];show gt ((l+1,_)::ug ((l,_)::E) nx _) nx=_;rw[aV,iy ag,bT,kh rfl,D.mp,z9z];simp;rw[bT,kh rfl,qz];rfl;rw[bT,iy ag];show gt ((l+1,_)::ug ((l,_)::E) nx _) k=_;rw[aV,iy ag,bT,iy ag];exact D.W3 k y;intro k y;obtain y |y:=yD.1 y;exact g.lt k y;simp at y;subst y;exact L
    ·rw[<-mG];(repeat refine⟨rfl,?_⟩);exact trivial
  ·refine goN ?_;have F:j=(bV P.gen x).length:=by
    have:¬ (j:Int)<(bV P.gen x).length:=by simpa using h4
    omega
   subst F;rw[uO]at A;obtain rfl:=sI A;exact⟨_,_,⟨Q,E,l,rfl,Zj,rfl,g⟩,g.le,Gh.sub<|by((repeat refine⟨rfl,?_⟩);exact trivial)⟩
 ·refine goN ?_;have kR:t=o.length:=by have:¬ (t:Int)<o.length:=(by simpa using h2);omega
  change cond (decide (t<o.length)) _ _=some out at O;rw[eJ ag]at O;obtain rfl:=sI O;exact⟨_,_,⟨s,H,M,rfl,rfl,z⟩,z.le,Gh.sub<|by((repeat refine⟨rfl,?_⟩);exact trivial)⟩
end
section
variable{kp c st:Nat}{nm:Nat->Nat}{P:PP}{h:X (Nat×B)}{nx:Nat}
theorem PH.beq(p:PH kp c st nm P h){i j:Nat}(a:i<P.N.length)(b:j<P.N.length):Nat.beq (nm i) (nm j)=Nat.beq i j:=by rw[beq_eq,beq_eq];by_cases e:i=j;simp[e];have:nm i≠nm j:=fun h=>e<|p.inj i j a b h;simp[e,this]
theorem z65(p:PH kp c st nm P h){j:Nat}(d:gt h j=some (.row [.ptr kp 0 0] 31))(n:Nat){a:dZ}{r:Nat}(q:u9 P.N P.gen n a.to=some r)(m:a.to<P.N.length):
  aT prog 107 (.agg (bW nm a)::[.ptr j 0 0]) ⟨h,nx⟩ (fun u s=>u=.bool (!Nat.beq r a.to)/\s=⟨h,nx⟩):=by
 refine aT.wf fun i _=>?_;have l:=pe q
 haveI:ck nx (nx+1):=⟨rfl⟩
 have e:PH kp c st nm P ((nx,.row (bW nm a) 107)::h):=p.more fun k b o=>by rw[jU (i k b o).1];exact o
 haveI:fP ((nx,.row (bW nm a) 107)::h) j (.row [.ptr kp 0 0] 31):=⟨by rw[jU (i _ _ d).1];exact d⟩
 have g:=e.node r _<|hF l;have f:=e.node a.to _<|hF m;refine eO 11 XF ?_;refine goN ?_;refine I6.any cf (lF:=[(3,.bool<|if BinOp.neq=BinOp.eql then Nat.beq (nm r) (nm a.to)else !Nat.beq (nm r) (nm a.to))]) (YF:=⟨(nx,.row (bW nm a) 107)::h,nx+1⟩) (fun t=>?_) ?_
 ·repeat' first
   |exact trivial
   |refine⟨rfl,?_⟩
   |refine And.intro ?_ ?_
   |(show z_ _ _ _ _ _ _ _ _ _;refine Exists.intro _ ⟨rfl,rfl,rfl,.inl ⟨_,_,P0,_,_,Gh.refl _ _ _,Wt _,?_⟩⟩)
   |(show z_ _ _ _ _ _ _ _ _ _;refine Exists.intro _ ⟨rfl,rfl,rfl,.inr<|.inl ⟨_,_,_,tJ rfl rfl zR rfl rfl rfl,U9 e n q,?_⟩⟩;rintro _ _ ⟨rfl,rfl⟩;refine⟨_,_,Gh.refl _ _ _,Wt _,?_⟩)
   |(show z_ _ _ _ _ _ _ _ _ _;refine Exists.intro _ ⟨rfl,rfl,rfl,.inr<|.inr ⟨_,fI.peq cf rfl (.inr rfl) i9.h (bG nF.h) (dF rfl) (dF rfl) g f,?_⟩⟩;rintro _ _ ⟨rfl,rfl⟩;refine⟨_,_,Gh.refl _ _ _,Wt _,?_⟩)
  all_goals exact⟨_,⟨(nx,.row (bW nm a) 107)::h,nx+1⟩,Gh.sub (l':=[(3,.bool<|if BinOp.neq=BinOp.eql then Nat.beq (nm r) (nm a.to)else !Nat.beq (nm r) (nm a.to))]) ⟨rfl,trivial⟩,Wt _,t⟩
 refine goN ?_;exact I_ i rfl rfl rfl (fun k d=>jU d) (Wt _) (by simp[aS]) ⟨by rw[iy cg,e.beq l m],rfl⟩
theorem z6j{a:Type}(q:a->Rl)(l:X a):decide (C3 q l>=0)=l.any q:=by
 unfold C3;cases b:l.findIdx? q with
 |none=>
  rw[QS]at b;have:l.any q=false:=by rw[any_eq_false];intro x f;simp[b x f]
  rw[this];rfl
 |some i=>rw[qcm]at b;obtain⟨e,d,_⟩:=b;have:l.any q=true:=any_eq_true.2 ⟨l[i],kG e,d⟩;rw[this];simp
theorem z9t{Y:Sg}{nm:Nat->Nat}{l:X dZ}{g:FuncId}{fn:Func}{cap:X U}{q:dZ->Rl}(d:tb.fn g=some fn)(e:fn.body.isSome=true)(i:l.length<=1000000)(f:∀a∈l,aT prog g (.agg (bW nm a)::cap) Y fun u b=>u=.bool (q a)/\b=Y):
  aT prog 106 [.iM (bW nm) l,.fn (.func g) [] cap] Y (fun u b=>u=.bool (l.any q)/\b=Y):=by refine eO 9 XG ?_;refine goN ?_;refine aM rfl (z8b d e i f) LV ?_;refine goN ?_;exact DJ rfl rfl rfl (zF _) ⟨by rw[z6j],rfl⟩
end
def BC(g:Int)(x:PN):Rl:=cond (x.c4 != g) false x.ch
def OI(N:X PN)(g:Int)(n:Nat)(a:dZ):Rl:=match u9 N g n a.to with
 |some r=>!Nat.beq r a.to|none=>false
def Kq(N:X PN)(g:Int)(n:Nat)(l:X dZ):Rl:=l.all fun a=>(u9 N g n a.to).isSome
def Dd(g:Int)(n:Nat):X Nat->X PN->A (X PN)
 |[],N=>some N|p::l,N=>a8 N[p]? fun x=>cond (Kq N g n x.D8) (aE (x.D8.length<=1000000)<|Dd g n l<|N.set p { x with ch:=hX g x != x.kind||(decide (((gW g x).length:Int)>0)||x.D8.any (OI N g n)),c4:=g }) none
def JJ(g:Int)(N:X PN):X dZ->A Rl
 |[]=>some false|a::l=>a8 N[a.to]? fun y=>cond (BC g y) (some true) (JJ g N l)
def MD(g:Int):X Nat->Rl->X PN->A (Rl×X PN)
 |[],a,N=>some (a,N)|p::l,a,N=>a8 N[p]? fun x=>cond (BC g x) (MD g l a N) (aE (x.D8.length<=1000000)<|a8 (JJ g N x.D8) fun c=>cond c (MD g l true<|N.set p { x with ch:=true,c4:=g })<|MD g l a N)
def Dc(g:Int)(l:X Nat):Nat->X PN->A (X PN)
 |0,_=>none|m+1,N=>a8 (MD g l false N) fun r=>cond r.1 (Dc g l m r.2) (some r.2)
def Pm(g:Int)(n:Nat)(l:X Nat)(N:X PN):A (X PN):=aE (l.length<=1000000) (a8 (Dd g n l N) fun a=>Dc g l n a)
section
variable{kp d st:Nat}{nm:Nat->Nat}{P:PP}{h:X (Nat×B)}{nx:Nat}
structure vN(kp d st:Nat)(nm:Nat->Nat)(P:PP)(h:X (Nat×B))(nx:Nat)(N:X PN)(H:X (Nat×B))(M:Nat):Prop where
 ph:PH kp d st nm { P with N:=N } H
 bx:gt H nx=some (.row [.ptr kp 0 0] 31)
 fr:∀k,k<nx->(∀i,i<P.N.length->nm i≠k)->gt H k=gt h k
 le:nx<M
 len:N.length=P.N.length
theorem vN.put{N:X PN}{H:X (Nat×B)}{M:Nat}(m:vN kp d st nm P h nx N H M){i:Nat}{x:PN}(y:PN)(a:N[i]? = some x)(g:lJ P.N.length y):vN kp d st nm P h nx (N.set i y) (ug H (nm i)<|.row (oV nm y) 103) M:=by have c:i<N.length:=(zG.1 a).1;refine⟨m.ph.put y a (by show lJ N.length y;rw[m.len];exact g),?_,fun k f b=>?_,m.le,by simp[m.len]⟩;rw[bT,iy fun e=>?_];exact m.bx;have:=m.bx;rw[<-e,m.ph.node i x a]at this;simp at this;rw[bT,iy<|b i (by rw[<-m.len];exact c)];exact m.fr k f b
theorem vN.wf{N:X PN}{H:X (Nat×B)}{M:Nat}(m:vN kp d st nm P h nx N H M){i:Nat}{x:PN}(a:N[i]? = some x):lJ P.N.length x:=by have:=m.ph.wf x<|zX a;rw[show({ P with N:=N }:PP).N.length=P.N.length from m.len]at this;exact this
theorem vN.more{N:X PN}{H:X (Nat×B)}{M:Nat}(m:vN kp d st nm P h nx N H M)(g:oY ⟨H,M⟩)(b:B):vN kp d st nm P h nx N ((M,b)::H) (M+1):=
 ⟨m.ph.more fun k c a=>by rw[jU (g k c a).1];exact a,by rw[jU m.le];exact m.bx,fun k e f=>by rw[jU<|Nat.lt_trans e m.le];exact m.fr k e f,Xm m.le,m.len⟩
theorem vN.gb{N:X PN}{H:X (Nat×B)}{M:Nat}(m:vN kp d st nm P h nx N H M):fP H nx (.row [.ptr kp 0 0] 31):=⟨m.bx⟩
theorem zac(p:PH kp d st nm P h)(n:Nat){l:X Nat}(hl:∀i∈l,i<P.N.length){G:X PN}(O:Pm P.gen n l P.N=some G):
  aT prog 68 [.ptr kp 0 0,.iM (dQ nm) l] ⟨h,nx⟩ (fun u Y'=>∃H M,u=.a7 []/\Y'=⟨H,M⟩/\PH kp d st nm { P with N:=G } H/\G.length=P.N.length/\nx<=M/\∀k,k<nx->(∀i,i<P.N.length->nm i≠k)->gt H k=gt h k):=by
 refine aT.wf fun xH _=>?_;obtain⟨sN,O⟩:=bY O;obtain⟨T,h1,h2⟩:=aK O
 haveI:ck nx (nx+1):=⟨rfl⟩
 refine eO 120 ja ?_;refine goN ?_;have Ft:vN kp d st nm P h nx P.N ((nx,.row [.ptr kp 0 0] 31)::h) (nx+1):=⟨p.more fun k b V=>by rw[jU (xH k b V).1];exact V,by simp[aV],fun k hk _=>jU hk,zN _,rfl⟩;refine gL (fun m g Y=>∃(t:Nat)(N:X PN)(H:X (Nat×B))(M:Nat),m=l.length-t/\t<=l.length/\Dd P.gen n (l.drop t) N=some T/\g=fr 120 [(1,.iM (dQ nm) l),(2,.ptr nx 0 0),(18,.iM (dQ nm) l),(19,.i6 l.length),(20,.i6 t)]/\Y=⟨H,M⟩/\vN kp d st nm P h nx N H M)
  (fun g Y=>∃(H:X (Nat×B))(M:Nat),g=fr 120 [(1,.iM (dQ nm) l),(2,.ptr nx 0 0)]/\Y=⟨H,M⟩/\vN kp d st nm P h nx T H M) l.length
  ⟨0,P.N,_,nx+1,rfl,qq _,h1,rfl,rfl,Ft⟩ ?_ ?_ (Wt _)
 ·rintro _ _ ⟨H,M,rfl,rfl,hm⟩;refine goN ?_;refine gL (fun m g Y=>∃(v:Rl)(N:X PN)(H:X (Nat×B))(M:Nat),cond v (Dc P.gen l m N) (some N)=some G/\g=fr 120 [(1,.iM (dQ nm) l),(2,.ptr nx 0 0),(9,.bool v)]/\Y=⟨H,M⟩/\vN kp d st nm P h nx N H M)
   (fun g Y=>∃(H:X (Nat×B))(M:Nat),g=fr 120 []/\Y=⟨H,M⟩/\vN kp d st nm P h nx G H M) n
   ⟨true,T,H,M,h2,rfl,rfl,hm⟩ ?_ ?_ (eW hm.le)
  rintro _ _ ⟨H,M,rfl,rfl,hm⟩;exact⟨.inl rfl,[],rfl,.a7 [],_,eW hm.le,Gh.refl _ _ _,H,M,rfl,rfl,hm.ph,hm.len,eW hm.le,hm.fr⟩;rintro m _ _ ⟨v,N,H,M,L,rfl,rfl,hm⟩;refine goN ?_;refine eD rfl (fun h3=>?_) (fun h3=>?_)
  ·subst h3;cases m with
   |zero=>cases L|succ m=>
   obtain⟨r,Z,L⟩:=aK (show a8 (MD P.gen l false N) (fun r=>cond r.1 (Dc P.gen l m r.2)<|some r.2)=some G from L);refine goN ?_;apply eX;refine goN ?_;refine gL (fun m g Y=>∃(t:Nat)(v:Rl)(N:X PN)(H:X (Nat×B))(M:Nat),m=l.length-t/\t<=l.length/\MD P.gen (l.drop t) v N=some r/\g=fr 120 [(1,.iM (dQ nm) l),(2,.ptr nx 0 0),(9,.bool v),(68,.iM (dQ nm) l),(69,.i6 l.length),(70,.i6 t)]/\Y=⟨H,M⟩/\vN kp d st nm P h nx N H M)
    (fun g Y=>∃(H:X (Nat×B))(M:Nat),g=fr 120 [(1,.iM (dQ nm) l),(2,.ptr nx 0 0),(9,.bool r.1)]/\Y=⟨H,M⟩/\vN kp d st nm P h nx r.2 H M) l.length
    ⟨0,false,N,H,M,rfl,qq _,Z,rfl,rfl,hm⟩ ?_ ?_ (eW hm.le)
   ·rintro _ _ ⟨H,M,rfl,rfl,hm⟩;refine goN ?_;exact⟨m,_,_,zN _,⟨r.1,r.2,H,M,L,rfl,rfl,hm⟩,eW hm.le,Gh.sub<|by((repeat refine⟨rfl,?_⟩);exact trivial)⟩
   rintro _ _ _ ⟨t,v,N,H,M,rfl,ht,e,rfl,rfl,hm⟩;refine goN ?_;refine eD rfl (fun D=>?_) (fun D=>?_)
   ·have f:t<l.length:=by simpa using D
    obtain⟨q,F⟩:∃a,l[t]? = some a:=⟨_,hF f⟩;have m5:aC l (t:Int)=some q:=by rw[aC,kh ⟨by omega,by omega⟩];simpa using F
    have tS:l.drop t=q::l.drop (t+1):=by rw[Xk f];rw[hF f]at F;cases F;rfl
    have K:i64.wrap ((t:Int)+1)=((t+1:Nat):Int):=by rw[wrap_i64 ag ag];rfl
    rw[tS]at e;obtain⟨x,z,e⟩:=aK e;have A:=hm.wf z
    haveI:=hm.ph.gp
    haveI:=hm.ph.gn z
    haveI:=hm.gb
    refine goN ?_;apply eX;refine goN ?_;refine dO m5 ?_;refine goN ?_;refine dE [] ?_;refine cX ?_;refine eA rfl (fun s=>Hg s x.ch x.c4 P.gen) S5 ?_;refine cX ?_;refine bC ⟨by kernel_rfl,trivial,?_⟩;refine goN ?_;refine eD rfl (fun h5=>?_) (fun h5=>?_)
    ·rw[show BC P.gen x=true from h5]at e;refine goN ?_;refine⟨l.length-(t+1),_,_,by omega,⟨t+1,v,N,H,M,rfl,f,e,rfl,rfl,hm⟩,eW hm.le,Gh.sub ?_⟩;rw[<-K];(repeat refine⟨rfl,?_⟩);exact trivial
    rw[show BC P.gen x=false from h5]at e;obtain⟨qF,e⟩:=bY e;obtain⟨c,o,e⟩:=aK e;have S:MD P.gen (l.drop<|t+1) (cond c true v) (cond c (N.set q { x with ch:=true,c4:=P.gen }) N)=some r:=by cases c<;>exact e
    refine goN ?_;refine gL (fun m g Y=>∃(j:Nat)(H:X (Nat×B))(M:Nat),m=x.D8.length-j/\j<=x.D8.length/\JJ P.gen N (x.D8.drop j)=some c/\g=fr 120 [(1,.iM (dQ nm) l),(2,.ptr nx 0 0),(9,.bool v),(11,pt nm q),(68,.iM (dQ nm) l),(69,.i6 l.length),(70,.i6 t),(90,.iM (bW nm) x.D8),(91,.i6 x.D8.length),(92,.i6 j)]/\Y=⟨H,M⟩/\vN kp d st nm P h nx N H M)
     (fun g Y=>∃(H:X (Nat×B))(M:Nat),g=fr 120 [(1,.iM (dQ nm) l),(2,.ptr nx 0 0),(9,.bool<|cond c true v),(68,.iM (dQ nm) l),(69,.i6 l.length),(70,.i6 t)]/\Y=⟨H,M⟩/\vN kp d st nm P h nx (cond c (N.set q { x with ch:=true,c4:=P.gen }) N) H M) x.D8.length
     ⟨0,H,M,rfl,qq _,o,rfl,rfl,hm⟩ ?_ ?_ (eW hm.le)
    ·rintro _ _ ⟨H,M,rfl,rfl,hm⟩;refine goN ?_;refine⟨l.length-(t+1),_,_,by omega,⟨t+1,_,_,H,M,rfl,f,S,rfl,rfl,hm⟩,eW hm.le,Gh.sub ?_⟩;rw[<-K];(repeat refine⟨rfl,?_⟩);exact trivial
    rintro _ _ _ ⟨j,H,M,rfl,hj,o,rfl,rfl,hm⟩;refine I6.wf fun fM _=>?_
    haveI:ck M (M+1):=⟨rfl⟩
    refine goN ?_;refine eD rfl (fun Q=>?_) (fun Q=>?_)
    ·have J:j<x.D8.length:=by simpa using Q
     obtain⟨a,I⟩:∃a,x.D8[j]? = some a:=⟨_,hF J⟩;have D0:aC x.D8 (j:Int)=some a:=by rw[aC,kh ⟨by omega,by omega⟩];simpa using I
     have L0:x.D8.drop j=a::x.D8.drop (j+1):=by rw[Xk J];rw[hF J]at I;cases I;rfl
     have CN:i64.wrap ((j:Int)+1)=((j+1:Nat):Int):=by rw[wrap_i64 ag ag];rfl
     rw[L0]at o;obtain⟨y,hy,o⟩:=aK o;have C:=hm.more fM (.row (bW nm a) 107)
     haveI:=C.ph.gp
     haveI:=C.ph.gn z
     haveI:=C.ph.gn hy
     haveI:=C.gb
     refine goN ?_;apply eX;refine goN ?_;refine dO D0 ?_;refine goN ?_;refine dE [] ?_;refine cX ?_;refine eA rfl (fun s=>Hg s y.ch y.c4 P.gen) S5 ?_;refine cX ?_;refine bC ⟨by kernel_rfl,trivial,?_⟩;refine goN ?_;refine eD rfl (fun R=>?_) (fun R=>?_)
     ·rw[show BC P.gen y=true from R]at o;obtain rfl:=sI o;refine goN ?_;exact⟨_,_,⟨_,M+1,rfl,rfl,C.put { x with ch:=true,c4:=P.gen } z ⟨A.D8,A.fw,A.more,A.cp⟩⟩,eW C.le,Gh.sub<|by((repeat refine⟨rfl,?_⟩);exact trivial)⟩
     ·rw[show BC P.gen y=false from R]at o;refine goN ?_;refine⟨x.D8.length-(j+1),_,_,by omega,⟨j+1,_,M+1,rfl,J,o,rfl,rfl,C⟩,eW C.le,Gh.sub ?_⟩;rw[<-CN];(repeat refine⟨rfl,?_⟩);exact trivial
    ·refine goN ?_;have J:j=x.D8.length:=by
      have:¬ (j:Int)<x.D8.length:=by simpa using Q
      omega
     subst J;rw[uO]at o;obtain rfl:=sI o;exact⟨_,_,⟨H,M,rfl,rfl,hm⟩,eW hm.le,Gh.sub<|by((repeat refine⟨rfl,?_⟩);exact trivial)⟩
   ·refine goN ?_;have f:t=l.length:=by
     have:¬ (t:Int)<l.length:=by simpa using D
     omega
    subst f;rw[uO]at e;obtain rfl:=sI e;exact⟨_,_,⟨H,M,rfl,rfl,hm⟩,eW hm.le,Gh.sub<|by((repeat refine⟨rfl,?_⟩);exact trivial)⟩
  subst h3;obtain rfl:=sI L;refine goN ?_;exact⟨_,_,⟨H,M,rfl,rfl,hm⟩,eW hm.le,Gh.sub trivial⟩
 ·rintro _ _ _ ⟨t,N,H,M,rfl,ht,e,rfl,rfl,hm⟩;refine goN ?_;refine eD rfl (fun D=>?_) (fun D=>?_)
  ·have f:t<l.length:=by simpa using D
   obtain⟨q,F⟩:∃a,l[t]? = some a:=⟨_,hF f⟩;have m5:aC l (t:Int)=some q:=by rw[aC,kh ⟨by omega,by omega⟩];simpa using F
   have tS:l.drop t=q::l.drop (t+1):=by rw[Xk f];rw[hF f]at F;cases F;rfl
   have K:i64.wrap ((t:Int)+1)=((t+1:Nat):Int):=by rw[wrap_i64 ag ag];rfl
   rw[tS]at e;obtain⟨x,z,e⟩:=aK e;obtain⟨cD,e⟩:Kq N P.gen n x.D8=true/\_:=by rcases o:Kq N P.gen n x.D8 with _|_;rw[o]at e;cases e;rw[o]at e;exact⟨rfl,e⟩
   obtain⟨qF,e⟩:=bY e;have A:=hm.wf z
   haveI:=hm.ph.gp
   haveI:=hm.ph.gn z
   haveI:=hm.gb
   refine goN ?_;apply eX;refine goN ?_;refine dO m5 ?_;refine goN ?_;refine dE [] ?_;refine cX ?_;refine eA rfl (fun s=>S2 s nm x.more x.L8 P.gen) AA ?_;refine cX ?_;refine bC ⟨by kernel_rfl,trivial,?_⟩;refine goN ?_;refine RS.w rfl (La rfl rfl) ?_;refine aM rfl (z9t (q:=OI N P.gen n) XF rfl qF (fun a I=>?_)) XG ?_;have Q:=all_eq_true.1 cD a I;obtain⟨r,Z⟩:=Option.isSome_iff_exists.1 Q;have R:=z65 (nx:=M) hm.ph hm.bx n Z (by show a.to<N.length;rw[hm.len];exact A.D8 a I);have h8:OI N P.gen n a= !Nat.beq r a.to:=by simp only[OI,Z]
   rw[h8];exact R;refine goN ?_;have E:∀{b:Rl},(hX P.gen x != x.kind||(decide (((gW P.gen x).length:Int)>0)||x.D8.any (OI N P.gen n)))=b->vN kp d st nm P h nx (N.set q { x with ch:=b,c4:=P.gen }) (ug H (nm q)<|.row (oV nm { x with ch:=b,c4:=P.gen }) 103) M/\Dd P.gen n (l.drop<|t+1) (N.set q { x with ch:=b,c4:=P.gen })=some T:=fun{b} V=>⟨hm.put _ z ⟨A.D8,A.fw,A.more,A.cp⟩,by rw[<-V];exact e⟩;cases WD:hX P.gen x != x.kind with
   |true=>obtain⟨g1,g2⟩:=E (b:=true) (by rw[WD];rfl);refine dE [] ?_;refine cX ?_;refine RD.call rfl (iE rfl zP rfl).2 (Sw hm.ph z) rfl rfl ?_;refine cX ?_;refine tC ?_;refine bC ⟨by kernel_rfl,trivial,?_⟩;refine goN ?_;refine⟨l.length-(t+1),_,_,by omega,⟨t+1,_,_,M,rfl,f,g2,rfl,rfl,g1⟩,eW hm.le,Gh.sub ?_⟩;rw[<-K];(repeat refine⟨rfl,?_⟩);exact trivial
   |false=>
    cases RP:decide (((cond (x.L8 != P.gen) [] x.more).length:Int)>0)with
    |true=>obtain⟨g1,g2⟩:=E (b:=true) (by rw[WD,show decide (((gW P.gen x).length:Int)>0)=true from RP];rfl);refine dE [] ?_;refine cX ?_;refine RD.call rfl (iE rfl zP rfl).2 (Sw hm.ph z) rfl rfl ?_;refine cX ?_;refine tC ?_;refine bC ⟨by kernel_rfl,trivial,?_⟩;refine goN ?_;refine⟨l.length-(t+1),_,_,by omega,⟨t+1,_,_,M,rfl,f,g2,rfl,rfl,g1⟩,eW hm.le,Gh.sub ?_⟩;rw[<-K];(repeat refine⟨rfl,?_⟩);exact trivial
    |false=>obtain⟨g1,g2⟩:=E (b:=x.D8.any<|OI N P.gen n) (by rw[WD,show decide (((gW P.gen x).length:Int)>0)=false from RP];rfl);refine dE [] ?_;refine cX ?_;refine RD.call rfl (iE rfl zP rfl).2 (Sw hm.ph z) rfl rfl ?_;refine cX ?_;refine tC ?_;refine bC ⟨by kernel_rfl,trivial,?_⟩;refine goN ?_;refine⟨l.length-(t+1),_,_,by omega,⟨t+1,_,_,M,rfl,f,g2,rfl,rfl,g1⟩,eW hm.le,Gh.sub ?_⟩;rw[<-K];(repeat refine⟨rfl,?_⟩);exact trivial
  ·refine goN ?_;have f:t=l.length:=by
    have:¬ (t:Int)<l.length:=by simpa using D
    omega
   subst f;rw[uO]at e;obtain rfl:=sI e;exact⟨_,_,⟨H,M,rfl,rfl,hm⟩,eW hm.le,Gh.sub<|by((repeat refine⟨rfl,?_⟩);exact trivial)⟩
end
end Go.Proofs
namespace Go.Proofs
open Go
def Tryz.gU:Shelf.Ren where
 f:=fun x=>match x with
  |6=>73|15=>110
  |14=>109|28=>151
  |29=>152|20=>143
  |21=>144|22=>145
  |23=>146|24=>147
  |25=>148|26=>149
  |27=>150|46=>167
  |47=>168|48=>169
  |49=>170|50=>171
  |57=>175|n=>n
 t:=fun x=>match x with
  |22=>93|24=>107
  |25=>169|3=>3
  |39=>212|0=>0
  |53=>246|55=>213
  |4=>4|46=>240
  |45=>239|50=>52
  |5=>5|9=>9
  |66=>255|70=>259
  |76=>264|77=>265
  |n=>n
 g:=fun x=>x
theorem Tryz.oU:SlLaysF0.n6 prog Tryz.gU where
 mixed:=rfl
 f6:=⟨Tryz.f73.name,by decide,Tryz.func73.trans rfl⟩
 f14:=⟨Tryz.f109.name,by decide,Tryz.func109.trans rfl⟩
 f15:=Tryz.func110.trans rfl
 f20:=⟨Tryz.f143.name,by decide,Tryz.func143.trans rfl⟩
 f21:=⟨Tryz.f144.name,by decide,Tryz.func144.trans rfl⟩
 f22:=⟨Tryz.f145.name,by decide,Tryz.func145.trans rfl⟩
 f23:=⟨Tryz.f146.name,by decide,Tryz.func146.trans rfl⟩
 f24:=⟨Tryz.f147.name,by decide,Tryz.func147.trans rfl⟩
 f25:=⟨Tryz.f148.name,by decide,Tryz.func148.trans rfl⟩
 f26:=⟨Tryz.f149.name,by decide,Tryz.func149.trans rfl⟩
 f27:=⟨Tryz.f150.name,by decide,Tryz.func150.trans rfl⟩
 f28:=Tryz.func151.trans rfl
 f29:=Tryz.func152.trans rfl
 f46:=⟨Tryz.f167.name,by decide,Tryz.func167.trans rfl⟩
 f47:=Tryz.func168.trans rfl
 f48:=Tryz.func169.trans rfl
 f49:=⟨Tryz.f170.name,by decide,Tryz.func170.trans rfl⟩
 f50:=⟨Tryz.f171.name,by decide,Tryz.func171.trans rfl⟩
 f57:=⟨Tryz.f175.name,by decide,Tryz.func175.trans rfl⟩
 t0:=Tryz.underlying0
 a0:=Tryz.isAgg0
 z0:=Tryz.sizeOf0
 v0:=Tryz.zeroValue0
 t3:=Tryz.underlying3
 a3:=Tryz.isAgg3
 z3:=Tryz.sizeOf3
 v3:=Tryz.zeroValue3
 t4:=Tryz.underlying4
 a4:=Tryz.isAgg4
 z4:=Tryz.sizeOf4
 v4:=Tryz.zeroValue4
 t5:=Tryz.underlying5
 a5:=Tryz.isAgg5
 z5:=Tryz.sizeOf5
 v5:=Tryz.zeroValue5
 t9:=Tryz.underlying9
 a9:=Tryz.isAgg9
 z9:=Tryz.sizeOf9
 v9:=Tryz.zeroValue9
 t22:=Tryz.underlying93
 a22:=Tryz.isAgg93
 z22:=Tryz.sizeOf93
 v22:=Tryz.zeroValue93
 t25:=Tryz.underlying169
 a25:=Tryz.isAgg169
 z25:=Tryz.sizeOf169
 v25:=Tryz.zeroValue169
 t39:=Tryz.underlying212
 a39:=Tryz.isAgg212
 z39:=Tryz.sizeOf212
 v39:=Tryz.zeroValue212
 t45:=Tryz.underlying239
 a45:=Tryz.isAgg239
 z45:=Tryz.sizeOf239
 v45:=Tryz.zeroValue239
 t46:=Tryz.underlying240
 a46:=Tryz.isAgg240
 z46:=Tryz.sizeOf240
 v46:=Tryz.zeroValue240
 t50:=Tryz.underlying52
 a50:=Tryz.isAgg52
 z50:=Tryz.sizeOf52
 v50:=Tryz.zeroValue52
 t53:=Tryz.underlying246
 a53:=Tryz.isAgg246
 z53:=Tryz.sizeOf246
 v53:=Tryz.zeroValue246
 t55:=Tryz.underlying213
 a55:=Tryz.isAgg213
 z55:=Tryz.sizeOf213
 v55:=Tryz.zeroValue213
 t66:=Tryz.underlying255
 a66:=Tryz.isAgg255
 z66:=Tryz.sizeOf255
 v66:=Tryz.zeroValue255
 t70:=Tryz.underlying259
 a70:=Tryz.isAgg259
 z70:=Tryz.sizeOf259
 v70:=Tryz.zeroValue259
 t76:=Tryz.underlying264
 a76:=Tryz.isAgg264
 z76:=Tryz.sizeOf264
 v76:=Tryz.zeroValue264
 t77:=Tryz.underlying265
 a77:=Tryz.isAgg265
 z77:=Tryz.sizeOf265
 v77:=Tryz.zeroValue265
end Go.Proofs
namespace Go.Vx
open Go Go.Rx Go.Proofs Go.Sort Go.Shelf
theorem sk{m:Nm}{v:I}(h:v.oneCell'=true):(G0 m v).oneCell'=true:=by
 cases v with
 |agg _=>simp[Value.oneCell']at h|tuple _=>simp[Value.oneCell']at h
 |pointer o=>cases o<;>rfl|slice o _ _=>cases o<;>rfl
 |map o=>cases o<;>rfl|chan o=>cases o<;>rfl
 |_=>rfl
theorem zan{x:Cx}{m:Nm}:∀{u:U}{v:I},Y9 u=true->aD x u v->(G0 m v).oneCell'=true
 |.L2,v,h,_=>by simp[Y9]at h
 |.agg _,v,h,_=>by simp[Y9]at h
 |.a7 _,v,h,_=>by simp[Y9]at h
 |.bool _,v,_,h=>by simp only[aD]at h;subst h;rfl
 |.int _ _,v,_,h=>by simp only[aD]at h;subst h;rfl
 |.str _,v,_,h=>by simp only[aD]at h;subst h;rfl
 |.b8,v,_,h=>by simp only[aD]at h;subst h;rfl
 |.J,v,_,h=>by simp only[aD]at h;subst h;rfl
 |.e9,v,_,h=>by simp only[aD]at h;subst h;rfl
 |.j7,v,_,h=>by simp only[aD]at h;subst h;rfl
 |.j9,v,_,h=>by simp only[aD]at h;subst h;rfl
 |.ptr _ _ _,v,_,h=>by simp only[aD]at h;exact sk h.1
 |.sl _ _ _ _,v,_,h=>by simp only[aD]at h;exact sk h.1
 |.vl _ _ _ _,v,_,h=>by simp only[aD]at h;exact sk h.1
 |.map _,v,_,h=>by simp only[aD]at h;exact sk h.1
 |.b4 _,v,_,h=>by simp only[aD]at h;obtain⟨i,off,row,e,rfl,_⟩:=h;rfl
 |.O _ _,v,_,h=>by simp only[aD]at h;obtain⟨_,rfl |⟨r,rfl⟩⟩|⟨i,off,c,rfl,_⟩:=h<;>rfl
 |.fn _ _ _,v,_,h=>by simp only[aD]at h;obtain⟨a,b,rfl,_⟩:=h;rfl
section
variable{v11:Type}{encU:v11->X U}{k:Nat}{x:Cx}{m:Nm}
structure El(encU:v11->X U)(k:Nat)(x:Cx)(m:Nm)(ds:X v11) where
 a:v11
 sv:X I
 mem:a∈ds
 len:sv.length=k
 rel:aZ x (encU a) sv
 G0:∀m',aJ x.s.nx m m'->aF m' sv=aF m sv
theorem qvl(g:∀a,(encU a).length=k){n:X v11}:∀(e:X v11)(c:X I),(∀a∈e,a∈n)->aZ x (e.map encU).flatten c->(∀d,aJ x.s.nx m d->aF d c=aF m c)->
  ∃i:X (El encU k x m n),i.map (fun p=>p.a)=e/\(i.map fun p=>p.sv).flatten=c
 |[],c,_,h,_=>by have:=h.L7;subst this;exact⟨[],rfl,rfl⟩
 |a::e,c,hm,h,v=>by
  simp only[zQ,Wx]at h;have j:=h.take k;have o:=h.drop k;rw[Q'<|g a]at j;rw[drop_left'<|g a]at o;have l:∀d,aJ x.s.nx m d->aF d (c.take k)=aF m (c.take k)/\aF d (c.drop k)=aF m (c.drop k):=fun d f=>by have:=v d f;simp only[lM,zp,zy]at this ⊢;rw[this];exact⟨rfl,rfl⟩
  obtain⟨i,r,t⟩:=qvl g e (c.drop k) (fun b u=>hm b<|by simp[u]) o fun d f=>(l d f).2;have q:(c.take k).length=k:=by rw[<-j.2,g]
  exact⟨⟨a,c.take k,hm a ca,q,j,fun d f=>(l d f).1⟩::i,by simp[r],by simp[t]⟩
theorem W?{c:X v11}:∀b:X (El encU k x m c),aZ x ((b.map fun p=>p.a).map encU).flatten (b.map fun p=>p.sv).flatten
 |[]=>aZ.nil x|p::b=>by simp only[zQ,Wx];exact p.rel.append (W? b)
theorem V?{f:X v11}{b:Nm}(e:aJ x.s.nx m b):∀a:X (El encU k x m f),aF b (a.map fun p=>p.sv).flatten=(a.map fun p=>aF m p.sv).flatten
 |[]=>by simp[aF]
 |p::a=>by have c:=V? e a;have d:=p.G0 b e;simp only[lM,zQ,Wx,LY]at c d ⊢;rw[c,d]
end
def Jt(P:Ib)(g:FuncId)(args:X U)(z:Int):Prop:=∀(b a:X I)(x:Cx),jB x->aZ x args b->∀m:Nm,nB m x.s.nx b a->∀w:Jb,fW m (C7 x.s) w->
  Calls P g a.toArray w fun e d=>e=.returned (.int .i64 z)/\∃q c,d=grow (w.drewN q) c
theorem z0g{c:Type}[Inhabited c]{a:c->X I}{k:Nat}(l:∀x,(a x).length=k)(i:0<k){w:Jb}{b off:Nat}{pre d:X I}{e:TypeId}{h:X c}(g:w.heap[b]? = some (.cells (pre++(h.map a).flatten++d).toArray e (0,0)))(m:pre.length=off):HoldsK a k w b off h.toArray:=by unfold HoldsK Holds;rw[qvp l i];intro j f;simp only[mm]at f;refine⟨?_,?_⟩;simp only[World.cell?,g];simp only[KF,XM,LX,vv,id];rw[zT,kq ag,kl ag];rw[show off+j-pre.length=j by omega,hF f,OP _ _<|by simpa using f];simp;simp[World.frozen?,g]
def i4{v11:Type}(f:v11->v11->A Int)(x y:v11):Rl:=decide ((f x y).getD 0<0)
def Ap{v11:Type}(eq:v11->v11->Rl)(f:v11->v11->A Int)(a:X v11):Rl :=
 a.all fun x=>!(i4 f x x)&&a.all fun y=>(f x y).isSome&&((i4 f x y||(i4 f y x||eq x y))&&a.all fun z=>(!(i4 f x y&&i4 f y z)||i4 f x z)&&(i4 f x y||(i4 f y z || !(i4 f x z))))
def yt{v11:Type}(eq:v11->v11->Rl)(f:v11->v11->A Int)(a:X v11):A (X v11):=cond (ble a.length 1000000&&Ap eq f a) (some<|gR (i4 f) a) none
structure Jo{v11:Type}(f:v11->v11->A Int)(S:v11->Prop):Prop where
 irrefl:∀x,S x->i4 f x x=false
 some:∀x y,S x->S y->∃z,f x y=some z
 U0:∀x y,S x->S y->i4 f x y=false->i4 f y x=false->x=y
 trans:∀x y z,S x->S y->S z->i4 f x y=true->i4 f y z=true->i4 f x z=true
 ntrans:∀x y z,S x->S y->S z->i4 f x y=false->i4 f y z=false->i4 f x z=false
variable{v11:Type}
theorem qog{eq:v11->v11->Rl}(k:∀x y,eq x y=true->x=y){f:v11->v11->A Int}{g:X v11}(h:Ap eq f g=true):Jo f (· ∈g):=by
 unfold Ap at h;rw[rj]at h;have i:∀x∈g,i4 f x x=false/\∀y∈g,(f x y).isSome=true/\(i4 f x y||(i4 f y x||eq x y))=true/\∀z∈g,(!(i4 f x y&&i4 f y z)||i4 f x z)=true/\(i4 f x y||(i4 f y z || !(i4 f x z)))=true:=fun x d=>by have a:=h x d;rw[fO,vP,rj]at a;refine⟨a.1,fun y e=>?_⟩;have b:=a.2 y e;rw[fO,fO,rj]at b;refine⟨b.1,b.2.1,fun z j=>?_⟩;have c:=b.2.2 z j;rw[fO]at c;exact c
 refine⟨fun x d=>(i x d).1,fun x y d e=>Option.isSome_iff_exists.1 ((i x d).2 y e).1,fun x y d e a b=>?_,fun x y z d e j a b=>?_,fun x y z d e j a b=>?_⟩;have:=((i x d).2 y e).2.1;rw[a,b]at this;exact k x y (by simpa using this);have:=(((i x d).2 y e).2.2 z j).1;rw[a,b]at this;simpa using this;have:=(((i x d).2 y e).2.2 z j).2;rw[a,b]at this;simpa using this
theorem qru{v11:Type}{f:v11->v11->A Int}{S:v11->Prop}(h:Jo f S)(x:v11)(e:S x):∀{l},(∀y∈l,S y)->fL (i4 f) l->fL (i4 f) (MI (i4 f) x l)
 |[],_,_=>by simp[MI,fL]
 |y::l,j,b=>by
  have d:=j y ca;have c:∀z∈l,S z:=fun z a=>j z (by simp[a]);simp only[MI];unfold fL at b ⊢;rw[wz]at b;cases g:i4 f y x with
  |true=>simp only[zC];rw[wz];refine⟨fun z a=>?_,qru h x e c b.2⟩;have:=(gz (i4 f) x l).mem_iff.1 a;obtain rfl |a:=zI.1 this;rcases i:i4 f z y with _|_;rfl;have:=h.trans y z y d e d g i;rw[h.irrefl y d]at this;cases this;exact b.1 z a
  |false=>simp only[zD];rw[wz];refine⟨fun z a=>?_,pairwise_cons.2 b⟩;obtain rfl |a:=zI.1 a;exact g;exact h.ntrans z y x (c z a) d e (b.1 z a) g
theorem qqk{v11:Type}{f:v11->v11->A Int}{S:v11->Prop}(h:Jo f S):∀l,(∀y∈l,S y)->fL (i4 f) (gR (i4 f) l)
 |[],_=>by simp[gR,fL]
 |x::l,a=>qru h x (a x ca) (fun y b=>a y<|by simp[(PE (i4 f) l).mem_iff.1 b]) (qqk h l fun y b=>a y<|by simp[b])
theorem qlh{v11:Type}{f:v11->v11->A Int}{S:v11->Prop}(h:Jo f S):∀{a b:X v11},(∀y∈a,S y)->fL (i4 f) a->fL (i4 f) b->a.Perm b->a=b
 |[],b,_,_,_,c=>by rw[c.nil_eq]
 |x::a,[],_,_,_,c=>by have:=c.length_eq;simp at this
 |x::a,y::b,j,g,i,c=>by
  unfold fL at g i;rw[wz]at g i;have l:x=y:=by have e:x∈y::b:=c.mem_iff.1 ca;have d:y∈x::a:=c.mem_iff.2 ca;obtain e |e:=zI.1 e;exact e;obtain d |d:=zI.1 d;exact d.symm;exact h.U0 x y (j x ca) (j y<|by simp[d]) (i.1 x e) (g.1 y d)
  subst l;rw[qlh h (fun z k=>j z<|by simp[k]) g.2 i.2<|Perm.cons_inv c]
theorem Jo.swo{f:v11->v11->A Int}{S:v11->Prop}(h:Jo f S){B:Type}(e:B->v11)(a:∀b,S<|e b):SWO (ltOf fun p q:B=>(f (e p)<|e q).getD 0):=
 ⟨fun x=>h.irrefl _<|a x,fun x y z=>h.trans _ _ _ (a x) (a y)<|a z,fun x y z=>h.ntrans _ _ _ (a x) (a y)<|a z⟩
def z7m(P:Ib)(f g:FuncId)(k:Nat):Prop:=∀(c:Type)[Inhabited c](b:c->X I)(h:c->c->Int),(∀x,(b x).length=k)->(∀x,∀v∈b x,v.oneCell'=true)->SWO (ltOf h)->
 ∀(j:Ie I)(a off cap:Nat)(d:Ie c)(w:Jb),CmpLays P g j b k h a off d.size w->HoldsK b k w a off d->a<w.heap.size->d.size<4611686018427387904->
  Calls P f #[.slice (some ⟨a,off,none⟩) d.size cap,.func (.func g) #[] j] w fun e m=>e=.returned (.tuple #[])/\∃i n l,PermIn 0 d.size d i/\SortedIn (ltOf h) 0 d.size i/\m=sortWorldK b k w a off n i l
theorem aT.BK{P:Ib}{g:FuncId}{args:X U}{vs cargs:X I}{z:Int}(h:Jt P g args z){x:Cx}(d:jB x)(b:aZ x args vs){m:Nm}(a:nB m x.s.nx vs cargs){w:Jb}(c:fW m (C7 x.s) w):
  Calls P g cargs.toArray w fun e i=>e=.returned (.int .i64 z)/\∃q f,i=grow (w.drewN q) f:=h vs cargs x d b m a w c
theorem aT.rF{P:Ib}{f g:FuncId}{encU:v11->X U}{k:Nat}(hk:∀a,(encU a).length=k)(BM:0<k)(KT:∀a,I5 (encU a)=true){cs:X U}{f1:v11->v11->A Int}(hs:z7m P f g k)
  (d:X v11) (hO:Jo f1 (· ∈d)) (W:∀a b r,f1 a b=some r->Jt P g (.agg (encU a):: .agg (encU b)::cs) r)
  {Y:Sg} {K st:Nat} {e:TypeId} (T:d≠[]) (aP:d.length<4611686018427387904) (hg:gt Y.h K=some (.vec ((d.map encU).flatten) e k st)):
  aT P f [.vl K st 0 d.length,.fn (.func g) [] cs] Y (fun u Y'=>u=.a7 []/\Y'=⟨ug Y.h K<|.vec (((gR (i4 f1) d).map encU).flatten) e k st,Y.nx⟩):=fun F x vs m w cargs hx hh eP Z dH J=>by
 subst hx;obtain⟨v0,Jx,rfl,h0,Z⟩:=Z.inv;obtain⟨v1,lm,rfl,D,Z⟩:=Z.inv;have:=Z.L7;subst this;simp only[aD]at h0 D;obtain⟨va,Q,rfl,_,hva,hvbP,ob⟩:=D;have hva':va=[]:=by cases va with
  |nil=>rfl|cons=>simp at hva
 subst hva';have hvE:aZ x cs Q:=⟨hvbP,ob⟩;have hvr:∀t,aJ x.s.nx m t->aF t Q=aF m Q:=fun t H=>by have D:=J t H;have O:=J m<|aJ.refl _ _;rw[<-O]at D;simp only[aF,G0,uS,List.cons.injEq,Value.func.injEq,Array.mk.injEq,X1,di]at D;exact D.2
 obtain⟨_,hK,h0⟩:=h0;obtain⟨l,e',sz,hb,oH⟩:=(h0 _ hg).2 rfl;cases hb;obtain⟨_,wt⟩:=hh.ok K _ hg;obtain⟨_,_,hB⟩:=wt;have yV:(d.map encU).flatten≠[]:=fun hn=>by obtain _|⟨a,d⟩:=d;exact T rfl;simp only[zQ,Wx,append_eq_nil_iff]at hn;have:=hk a;rw[hn.1]at this;simp at this;omega
 obtain⟨hn,_⟩|⟨i,l',iL,N,hE⟩:=hB;exact absurd hn yV;rw[iL]at oH;simp only[IV]at oH;obtain⟨zz,_⟩|rfl:=oH;omega;have vI:=dH m<|aJ.refl _ _;have KW:=hh.bd i _ N;obtain⟨pre,M,lH,lP,gD⟩:=(vI.ok i _ N:wW m i _ e w (k+2));have nU:=J.at;simp only[aF,G0,uS]at nU;subst nU;have Gy:m.I4 i<w.heap.size:=vI.size N;have Hc:∀t,aJ x.s.nx m t->aF t l'=aF m l':=fun t H=>by
  obtain⟨a1,a2,a3⟩:=H i KW;obtain⟨pre',IM,kS,hpre',_⟩:=((dH t H).ok i _ N:wW t i _ e w (k+2));rw[a1,lH]at kS;simp only[zA,Obj.cells.injEq,X1]at kS;have D:=congrArg Array.toList kS;simp only[zT]at D;have hl:pre.length=pre'.length:=by omega
  have O:=append_inj_right D hl;exact(append_inj_left O<|by simp[lM]).symm
 obtain⟨L,Zu,Zt⟩:=qvl hk d l' (fun a h=>h) hE Hc;have R:L.length=d.length:=by have h:=congrArg List.length Zu;simpa using h
 have hpne:L≠[]:=fun h=>by rw[h]at R;exact T (length_eq_zero_iff.1 R.symm)
 let p0:El encU k x m d:=L.head hpne
 letI:Inhabited (El encU k x m d):=⟨p0⟩
 let enc:El encU k x m d->X I:=fun p=>aF m p.sv
 let V:El encU k x m d->El encU k x m d->Int:=fun p q=>(f1 p.a q.a).getD 0
 have S:∀p,(enc p).length=k:=fun p=>by simp only[enc,lM,yA,p.len]
 have yO:∀p,∀v∈enc p,v.oneCell'=true:=fun p v hv=>by
  simp only[enc,lM,gf]at hv;obtain⟨v',hv',rfl⟩:=hv;obtain⟨j,B⟩:=mc hv';have iV:j<(encU p.a).length:=by rw[p.rel.2];exact(zG.1 B).1
  obtain⟨v2,D,O⟩:=p.rel.get<|hF iV;rw[B]at D;cases D;exact zan ((NB _).1 (KT p.a) _ (kG iV)) O
 have HH:aF m l'=(L.map enc).flatten:=by rw[<-Zt];exact V? (aJ.refl _ _) L
 rw[HH]at lH;have Gg:HoldsK enc k w (m.I4 i) (m.sh i+0*k) L.toArray:=z0g S BM lH ag;have qf:CmpLays P g (aF m Q).toArray enc k V (m.I4 i) (m.sh i+0*k) L.toArray.size w:=fun n os dk hdk p q=>by
  obtain⟨z,hz⟩:=hO.some p.a q.a p.mem q.mem;have hcz:V p q=z:=by simp[V,hz]
  rw[hcz];have fN:=aT.BK (W p.a q.a z hz) hh (vs:=.agg ⟨p.sv⟩:: .agg ⟨q.sv⟩::Q) (cargs:=.agg (enc p).toArray :: .agg (enc q).toArray::aF m Q) (m:=m)
   (aZ.cons (by simp only[aD];exact⟨_,rfl,p.rel.1,p.rel.2,KT _⟩)<|aZ.cons (by simp only[aD];exact⟨_,rfl,q.rel.1,q.rel.2,KT _⟩) hvE)
   (fun t H=>by simp only[aF,G0,uS,enc,p.G0 t H,q.G0 t H,hvr t H])
   (w:=sortWorldK enc k w (m.I4 i) (m.sh i+0*k) n dk os) (fun t H=>by
    have mZ:aJ x.s.nx m t:=H;have RE:=dH t mZ;refine⟨fun j b B=>?_,fun j j' b c B vG T ho=>?_,fun j b B=>?_⟩;rw[NF]at B;obtain⟨B,l2,e2,rfl⟩:=UJ B;refine(RE.ok j _ B).world ?_;have T:t.I4 j≠m.I4 i:=fun hc=>by
     have mY:i≠j:=fun h=>by subst h;rw[N]at B;cases B
     have:=RE.inj i j _ _ N B mY rfl;rw[(mZ i KW).1]at this;exact this hc.symm
    have dV:=RE.size B;unfold sortWorldK putRowK putRow mapBlock;simp only[Sort.grow];rw[qcL<|by simpa[Sort.ahead]using dV];simp only[qcb,Sort.ahead];rw[iy<|Wv T];rw[NF]at B;obtain⟨_,l2,e2,rfl⟩:=UJ B;simp[Rx.iK]at ho;rw[NF]at B;exact hh.bd j b (UJ B).1)
  simpa using fN
 have hc:=hs (El encU k x m d) enc V S yO (hO.swo (fun p:El encU k x m d=>p.a) fun p=>p.mem) (aF m Q).toArray (m.I4 i) (m.sh i+0*k) (cM m i<|cP+0) L.toArray w qf Gg Gy (by simpa[R]using aP);simp only[mm,R]at hc;refine(show Calls P f _ w _ from hc).mono ?_;rintro e1 w' ⟨rfl,d',n,os,E7,QR,rfl⟩;obtain⟨G,rfl⟩:∃G:X (El encU k x m d),d'=G.toArray:=⟨d'.toList,by simp⟩;have Ez:G.length=L.length:=by have:=E7.1;simpa using this
 have QQ:G.map (fun p=>p.a)=gR (i4 f1) d:=by
  have hp:G.Perm L:=by
   have h3:=E7.2.2;have e1:(G.toArray.extract 0 d.length).toList=G:=by simp[<-R,<-Ez]
   have e2:(L.toArray.extract 0 d.length).toList=L:=by simp[<-R]
   rwa [e1,e2]at h3
  refine qlh hO (fun y hy=>?_) ?_ (qqk hO d fun y hy=>hy)<|((hp.map _).trans (Perm.of_eq Zu)).trans (PE _ d).symm;obtain⟨p,_,rfl⟩:=mem_map.1 hy;exact p.mem;unfold fL;rw[qcM];intro a b H hb BP;simp only[yA]at H hb;have:=QR a b (qq _) BP ag;simpa[H,hb,V,ltOf,i4]using this
 have sN:((G.map enc).flatten).length=((L.map enc).flatten).length:=by rw[Mt S,Mt S,Ez]
 have hll2:((G.map fun p=>p.sv).flatten).length=l'.length:=by have D:∀qs:X (El encU k x m d),((qs.map fun p=>p.sv).flatten).length=qs.length*k:=fun qs=>Mt (enc:=fun p:El encU k x m d=>p.sv) (fun p=>p.len) qs;rw[D,Ez,<-D,Zt]
 have dP:(putRowK enc k (Sort.ahead w n) (m.I4 i) (m.sh i+0*k) G.toArray).heap[m.I4 i]? = some (.cells (pre++(G.map enc).flatten++M).toArray e (0,0)):=by unfold putRowK putRow mapBlock;rw[qvp S BM];simp only[qcb,It,Sort.ahead,lH,zM,onCells];rw[show m.sh i+0*k=pre.length by omega,qsf _ _ _ _ sN]
 have gE:bJ m x.s w m ⟨up x.s.h i<|.inl ((G.map fun p=>p.sv).flatten,e,k+2),x.s.nx⟩ (putRowK enc k (Sort.ahead w n) (m.I4 i) (m.sh i+0*k) G.toArray):=by refine bJ.write dH N rfl (fun j B=>?_) (by simp[putRowK,putRow,mapBlock,Sort.ahead]) rfl rfl rfl (jG _ _) fun t H=>?_;unfold putRowK putRow mapBlock;simp only[qcb,Sort.ahead];rw[iy<|Wv B];obtain⟨a1,a2,a3⟩:=H i KW;refine⟨pre,M,?_,by rw[a2];exact lP,?_⟩;rw[a1,V? H];exact dP;rw[hll2,a3];exact gD
 have eZ:=Ta (c:=.inl ((G.map fun p=>p.sv).flatten,e,k+2)) (bK:=.vec (((gR (i4 f1) d).map encU).flatten) e k st) hh hg iL N rfl (by rintro l e sz st h;cases h;exact⟨_,rfl⟩) fun y D O hm=>⟨pj KT _,BM,.inr ⟨i,_,D,O,by rw[<-QQ];exact hm.ke.E (W? G).L5 (W? G)⟩⟩;refine⟨_,m,.a7 [],.tuple #[],.tuple #[],rfl,⟨rfl,rfl⟩,gE.trans<|z4p gE.fits os,fun t _=>by simp[G0,uS,aF],eZ.h,eZ.fr F eP,by simp[aD,c7],eZ.mo.ke,zF _⟩
theorem L!{v11:Type}{eq:v11->v11->Rl}{f:v11->v11->A Int}{a c:X v11}(h:yt eq f a=some c):a.length<=1000000/\Ap eq f a=true/\c=gR (i4 f) a:=by unfold yt at h;rcases b:(ble a.length 1000000&&Ap eq f a)with _|_;rw[b]at h;cases h;rw[b]at h;rw[fO,wm]at b;exact⟨b.1,b.2,(Option.some.inj h).symm⟩
end Go.Vx
