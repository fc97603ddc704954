import Derived.LaidEqlPtr
import Derived.Test.YtmflfedkfdkipaaGreatP13
set_option linter.all false
set_option maxRecDepth 20000
set_option maxHeartbeats 4000000
set_option synthInstance.maxSize 4000
set_option synthInstance.maxHeartbeats 200000
open List Go.IntKind
open Nat hiding beq_eq
namespace Go.Vx
open Go Go.Rx
section
variable{P:Ua}{T:Tb}(c:jW P T)
include c
theorem z5g{i h:TypeId}{n:Nat}(f:T.I1 i=some (.pointer h))(g:cP T h=some (n+1))(d:Nat){a b:Addr}{j k:Jg Value}{o tb:TypeId}(w:Ep)(l:w.heap[a.block]? = some (.cells j o (0,0)))(m:w.heap[b.block]? = some (.cells k tb (0,0))):
  (Op.equalIn (d+1) i (.pointer<|some a)<|.pointer<|some b).run P w=.ok (decide (a=b)) w:=by by_cases e:a=b;subst e;simp[Op.equalIn,lX c w f,rR c w g,run_sameAddr_same];simp[Op.equalIn,lX c w f,rR c w g,run_sameAddr_other w e l m,e]
theorem z5f{e d:TypeId}{l:Nat}(j:T.I1 e=some (.pointer d))(k:cP T d=some (l+1)){a b:Addr}{f g:Jg Value}{m tb:TypeId}(w:Ep)(h:w.heap[a.block]? = some (.cells f m (0,0)))(i:w.heap[b.block]? = some (.cells g tb (0,0))):
  (Op.equal e (.pointer<|some a)<|.pointer<|some b).run P w=.ok (decide (a=b)) w:=z5g c j k 9999 w h i
end
variable{x:Cx}{k:Nat}{l:X U}{e:TypeId}
theorem U7(n:jV x){m:Nm}{w:Ep}(b:Fits m x.s w){i:Nat}(d:gt x.Y.h k=some (.row l e))(f:x.I k=some i):m.sh i=0/\∃c,w.heap[m.I5 i]? = some (.cells c e (0,0)):=by obtain⟨_,_,j,o,a,g,_⟩:=n.ok k _ d;rw[f]at a;cases a;have:=b.ok i _ g;simp only[xU,BR]at this;exact⟨this.1,_,this.2⟩
variable{e':TypeId}
theorem zb6(f:jV x){m:Nm}{w:Ep}(q:Fits m x.s w){i a b:Nat}{u:X U}(g:gt x.Y.h k=some (.row l e))(d:x.I k=some i)(o:gt x.Y.h a=some (.row u e'))(c:x.I a=some b):(m.I5 i=m.I5 b)↔k=a:=by constructor;intro h;obtain⟨_,_,j,r,n,t,_⟩:=f.ok k _ g;rw[d]at n;cases n;obtain⟨_,_,y,z,p,v,_⟩:=f.ok a _ o;rw[c]at p;cases p;by_cases e:i=b;subst e;exact f.inj k a _ _ i g o d c;exact absurd h<|q.inj i b _ _ t v e rfl;rintro rfl;rw[d]at c;cases c;rfl
theorem Up{v:Value}(b:gt x.Y.h k=some (.row l e))(c:aF x (.ptr k 0 0) v):∃i,x.I k=some i/\v=.pointer (some ⟨i,0,none⟩):=by simp only[aF]at c;obtain⟨_,a⟩:=c.2.2 _ b;exact a rfl
section
variable{C:PG}{T:Tb}(d:jW C.prog T)
include d
theorem fY.peq{Y:Sg}{r:X U}{o:Oper}{b:BinOp}{t ty D:TypeId}{sz f:Nat}{v y:He}{l':X U}(A:o.op=.binOp b t v y ty)(R:b=.eql\/b=.neq)(V:T.I1 t=some (.pointer D))(Z:cP T D=some (sz+1))(hx:cX r v=some (.ptr k 0 0))(hy:cX r y=some (.ptr f 0 0))(q:gt Y.h k=some (.row l e))(s:gt Y.h f=some (.row l' e')):
  fY C Y r o (fun u I=>u=.bool (if b=.eql then Nat.beq k f else !Nat.beq k f)/\I=Y):=fun F x tv m w a next Q M st hG W ro fO=>by
 subst M;obtain⟨vx,ex,rx⟩:=kG st.e hx;obtain⟨vy,L,ry⟩:=kG st.e hy;obtain⟨i,z,rfl⟩:=Up q rx;obtain⟨g,B,rfl⟩:=Up s ry;have p:=st.fits.fits;obtain⟨s1,c1,N⟩:=U7 st.h p q z;obtain⟨s2,c2,O⟩:=U7 st.h p s B;have E:decide ((⟨m.I5 i,m.sh i+0,none⟩:Addr)=⟨m.I5 g,m.sh g+0,none⟩)=Nat.beq k f:=by rw[s1,s2,beq_eq];have:=zb6 st.h p q z s B;by_cases e:k=f;rw[Zh e,this.2 e];simp;have P:m.I5 i≠m.I5 g:=fun h=>e<|this.1 h;rw[Zb e];simp[P]
 have H:a.eval v=.pointer (some ⟨m.I5 i,m.sh i+0,none⟩):=by have j:=(st.act.F8 ex).at;simp only[H3]at j;exact j.symm
 have G:a.eval y=.pointer (some ⟨m.I5 g,m.sh g+0,none⟩):=by have j:=(st.act.F8 L).at;simp only[H3]at j;exact j.symm
 have n:=z5f d V Z (a:=⟨m.I5 i,m.sh i+0,none⟩) (b:=⟨m.I5 g,m.sh g+0,none⟩) w N O;rw[E]at n;simp only[eT]at n;have K:(execOp a.eval o).run C.prog w=.ok (.value<|.bool<|if b=.eql then Nat.beq k f else !Nat.beq k f) w:=by simp only[execOp,A,H,G];obtain rfl |rfl:=R;simp[eqGuard,binOp,n];simp[eqGuard,binOp,n]
 refine A4 (by rw[A];intro c S;cases S) ?_;unfold Oper.wp;rw[K];have J:=bS.refl st.fits;exact W _ x (E7 tv o.dst<|.bool<|if b=.eql then Nat.beq k f else !Nat.beq k f) m w _ ⟨rfl,rfl⟩ ⟨st.h,st.fr,NW st.e (by simp[aF]) _,st.fits,st.act.put (QR fun _=>by simp[H3]) o.dst⟩ J (Ke.refl _ _) (zF _) (JR _ _ _)
end
def pE(e:Nat×U×Nat):ME:=⟨.ptr e.1 0 0,e.2.1,e.2.2⟩
def y6(k:Nat):X (Nat×U×Nat)->V U
 |[]=>none|e::a=>cond (Nat.beq e.1 k) (some e.2.1) (y6 k a)
def cA(h:X (Nat×B))(k:Nat):Prop:=∃l e,gt h k=some (.row l e)
theorem yW.qL{e:ME}{c:X ME}{a:X MapEntry}(h:yW x (e::c) a):∃v g,a=v::g/\aF x e.key v.key/\aF x e.val v.val/\v.born=e.born/\yW x c g:=by obtain⟨d,f⟩:=h;obtain _|⟨v,a⟩:=a;simp at d;obtain⟨p,b,j,m,n⟩:=f 0 e rfl;simp at b;subst b;refine⟨v,a,rfl,j,m,n,by simpa using d,fun i e o=>?_⟩;have:=f (i+1) e (by simpa using o);simpa using this
section
variable{P:Ua}{T:Tb}(c:jW P T){x:Cx}(d:jV x){m:Nm}{w:Ep}(f:Fits m x.s w){g o:TypeId}{sz:Nat}(p:T.I1 g=some (.pointer o))(q:cP T o=some (sz+1))
include c d f p q
theorem qwr{k n:Nat}(Z:cA x.Y.h k)(F:x.I k=some n):∀(A:X (Nat×U×Nat))(s:X MapEntry)(i:Nat),(∀e∈A,cA x.Y.h e.1)->yW x (A.map pE) s->
  ∃r,(Instr.findAsking g (.pointer<|some ⟨m.I5 n,m.sh n,none⟩) (s.map<|BM m) i).run P w=.ok r w/\(y6 k A=none->r=none)/\∀u,y6 k A=some u->∃j v,v∈s/\r=some (j,H3 m v.val)/\aF x u v.val
 |[],s,i,_,hr=>by
  have:s=[]:=by have:=hr.1;simpa using this.symm
  subst this;exact⟨none,by simp[Instr.findAsking],fun _=>rfl,fun u y=>by simp[y6]at y⟩
 |e::A,s,i,K,hr=>by
  obtain⟨v,s,rfl,O,G,_,N⟩:=yW.qL hr;obtain⟨l,t,E⟩:=Z;obtain⟨l',t',H⟩:=K e aZ;obtain⟨z,J,kY⟩:=Up H O;obtain⟨s1,c1,S⟩:=U7 d f E F;obtain⟨s2,c2,V⟩:=U7 d f H J;have C:=z5f c p q (a:=⟨m.I5 n,m.sh n,none⟩) (b:=⟨m.I5 z,m.sh z+0,none⟩) w S V;have Q:decide ((⟨m.I5 n,m.sh n,none⟩:Addr)=⟨m.I5 z,m.sh z+0,none⟩)=Nat.beq e.1 k:=by rw[s1,s2,beq_eq];have:=zb6 d f E F H J;by_cases D:k=e.1;rw[Zh (show e.1=k from D.symm),this.2 D];simp;have W:m.I5 n≠m.I5 z:=fun h=>D<|this.1 h;rw[Zb<|show ¬ e.1=k from fun h=>D h.symm];simp[W]
  rw[Q]at C;obtain⟨r,g1,g2,R⟩:=qwr ⟨l,t,E⟩ F A s (i+1) (fun e M=>K e<|by simp[M]) N;have L:H3 m v.key=.pointer (some ⟨m.I5 z,m.sh z+0,none⟩):=by simp[kY,H3]
  cases B:Nat.beq e.1 k with|true=>rw[B]at C;refine⟨some (i,H3 m v.val),?_,fun h=>?_,fun u y=>?_⟩;simp only[zQ,Instr.findAsking,BM,L,zK,C,zJ,It,zL];simp[y6,B]at h;simp only[y6,B,zC,zA]at y;subst y;exact⟨i,v,by simp,rfl,G⟩|false=>rw[B]at C;refine⟨r,?_,fun h=>?_,fun u y=>?_⟩;simp only[zQ,Instr.findAsking,BM,L,zK,C,zJ,gj,MF];exact g1;simp only[y6,B,zD]at h;exact g2 h;simp only[y6,B,zD]at y;obtain⟨j,v',q1,q2,q3⟩:=R u y;exact⟨j,v',by simp[q1],q2,q3⟩
theorem qsz{n:Nat}(A:cA x.Y.h k)(z:x.I k=some n)(b:X (Nat×U×Nat))(a:X MapEntry)(y:∀e∈b,cA x.Y.h e.1)(B:yW x (b.map pE) a):
  ∃r,(Instr.findKey g (.pointer<|some ⟨m.I5 n,m.sh n,none⟩)<|a.map<|BM m).run P w=.ok r w/\(y6 k b=none->r=none)/\∀u,y6 k b=some u->∃j v,v∈a/\r=some (j,H3 m v.val)/\aF x u v.val:=by
 obtain⟨r,i,s,t⟩:=qwr c d f p q A z b a 0 y B;refine⟨r,?_,s,t⟩;unfold Instr.findKey;simp only[zK,lX c w p,zJ];cases a with
 |nil=>simp only[ez,Instr.findAsking,zL,Result.ok.injEq,cO]at i;subst i;simp[Instr.findNow]|cons v a=>simp only[zQ,Instr.findNow,Instr.sameNow];exact i
omit d f q in
theorem qkc(b:FK)(n:Nat)(v:Value):(Instr.checkKey b (n+1) g v).run P w=.ok () w:=by simp[Instr.checkKey,lX c w p]
end
section
variable{C:PG}{T:Tb}(d:jW C.prog T)
include d
variable{Y:Sg}{tm:X U}{o:Oper}{t:TypeId}{sz:Nat}{f:He}
theorem fY.lO{kt R te:TypeId}{r a' b' P:Nat}{z:Value}{zu:U}{J:He}{ok:FK}{g:X (Nat×U×Nat)}(G:o.op=.lookup t f J ok)(V:T.I1 t=some (.map kt R))(E:T.I1 kt=some (.pointer te))(hs:cP T te=some (sz+1))
  (hz:T.inf R=some (a',b',z)) (I:kS z=some zu) (hx:cX tm f=some (.map r)) (hy:cX tm J=some (.ptr k 0 0)) (hg:gt Y.h r=some (.map (g.map pE) P)) (eL:cA Y.h k) (B:∀e∈g,cA Y.h e.1):
  fY C Y tm o (fun u Y'=>u=(match y6 k g with |some v=>cond ok (.a7 [v,.bool true]) v |none=>cond ok (.a7 [zu,.bool false]) zu)/\Y'=Y):=fun F x tv m w a next Q g8 st hG hn ro fO=>by
 subst g8;obtain⟨vx,ex,rx⟩:=kG st.e hx;obtain⟨vy,ey,ry⟩:=kG st.e hy;obtain⟨l0,e0,N⟩:=eL;obtain⟨i0,D,rfl⟩:=Up N ry;obtain⟨i,n,h1,rfl,h3,h4,wQ⟩:=zal (m:=.map r) st.h rx hg;have W:=st.fits.fits;have O:a.eval f=.map (some<|m.I5 i):=by have q:=(st.act.F8 ex).at;simp only[H3]at q;exact q.symm
 have M:a.eval J=.pointer (some ⟨m.I5 i0,m.sh i0,none⟩):=by have q:=(st.act.F8 ey).at;simp only[H3,eT]at q;exact q.symm
 have K:w.heap[m.I5 i]? = some (.map (n.map<|BM m).toArray P):=W.ok i _ h3;have dJ:=qpc st.fits wQ;obtain⟨r,g1,g2,g3⟩:=qsz d st.h W E hs ⟨l0,e0,N⟩ D g n B h4;obtain⟨H,A⟩:=QF d m w hz;have L:=(Bq _ _ I).2 x;have key:∃v,(execOp a.eval o).run C.prog w=.ok (.value<|H3 m v) w/\(∀b,aP x.s.nx m b->H3 b v=H3 m v)/\aF x (match y6 k g with |some v=>cond ok (.a7 [v,.bool true]) v |none=>cond ok (.a7 [zu,.bool false]) zu) v:=by
  cases Z:y6 k g with
  |none=>have:=g2 Z;subst this;refine⟨cond ok (.tuple #[z,.bool false]) z,?_,fun b p=>?_,?_⟩;simp only[execOp,G,O,M,Instr.lookup,zK,lX d w V,zJ,Rx.run_getObj_map K,qkc d E,g1,zL,H];cases ok;simp[A];simp[H3,aL,A];have q1:=(QF d b w hz).2;cases ok;simp only[zD];rw[q1,A];simp only[zC,H3,wG,aL];rw[q1,A];cases ok;exact L;simp only[zC,aF];exact⟨_,rfl,by simp[cJ,aF];exact L,rfl⟩|some u=>
   obtain⟨j,v,q1,rfl,q3⟩:=g3 u Z;have y:∀b,aP x.s.nx m b->H3 b v.val=H3 m v.val:=fun b p=>by have h5:=dJ b p;have S:=map_inj_left.1 h5 v q1;simp only[BM,MapEntry.mk.injEq]at S;exact S.2.1
   refine⟨cond ok (.tuple #[v.val,.bool true]) v.val,?_,fun b p=>?_,?_⟩;simp only[execOp,G,O,M,Instr.lookup,zK,lX d w V,zJ,Rx.run_getObj_map K,qkc d E,g1,zL];cases ok;simp;simp[H3,aL];cases ok;exact y b p;simp only[zC,H3,wG,aL];rw[y b p];cases ok;exact q3;simp only[zC,aF];exact⟨_,rfl,by simp[cJ,aF];exact q3,rfl⟩
 obtain⟨v,k1,k2,k3⟩:=key;refine A4 (by rw[G];intro c hc;cases hc) ?_;unfold Oper.wp;rw[k1];exact hn _ x (E7 tv o.dst v) m w _ ⟨rfl,rfl⟩ ⟨st.h,st.fr,NW st.e k3 _,st.fits,st.act.put k2 o.dst⟩ (bS.refl st.fits) (Ke.refl _ _) (zF _) (JR _ _ _)
theorem fY.pins{V et Z:TypeId}{r cl:Nat}{v:U}{y vo:He}{es:X (Nat×U×Nat)}(g:o.op=.mapUpdate t f y vo\/o.op=.insert t f y vo)(hd:T.I1 t=some (.map V et))(S:T.I1 V=some (.pointer Z))(hs:cP T Z=some (sz+1))
  (hx:cX tm f=some (.map r)) (hy:cX tm y=some (.ptr k 0 0)) (hv:cX tm vo=some v) (R:gt Y.h r=some (.map (es.map pE) cl)) (eL:cA Y.h k) (B:∀e∈es,cA Y.h e.1) (hp:y6 k es=none):
  fY C Y tm o (fun u Y'=>u=.J9/\Y'=⟨ug Y.h r<|.map ((es++[(k,v,cl)]).map pE)<|cl+1,Y.nx⟩):=fun F x tv m w a next Q g8 st hG hn ro fO=>by
 subst g8;obtain⟨vx,ex,rx⟩:=kG st.e hx;obtain⟨vy,L,W⟩:=kG st.e hy;obtain⟨vv,ev,rv⟩:=kG st.e hv;have H:=W;obtain⟨l0,e0,K⟩:=eL;obtain⟨j,D,rfl⟩:=Up K W;obtain⟨i,es',h1,rfl,M,N,wQ⟩:=zal (m:=.map r) st.h rx R;have O:=st.fits.fits;have XD:a.eval f=.map (some<|m.I5 i):=by have p:=(st.act.F8 ex).at;simp only[H3]at p;exact p.symm
 have J:a.eval y=.pointer (some ⟨m.I5 j,m.sh j,none⟩):=by have p:=(st.act.F8 L).at;simp only[H3,eT]at p;exact p.symm
 have DO:w.heap[m.I5 i]? = some (.map (es'.map<|BM m).toArray cl):=O.ok i _ M;have dJ:=qpc st.fits wQ;obtain⟨r',g1,g2,_⟩:=qsz d st.h O S hs ⟨l0,e0,K⟩ D es es' B N;have:=g2 hp;subst this;obtain⟨b,e1,z⟩:=zdb (P:=C.prog) st.fits wQ (es':=es'++[{ key:=.pointer<|some ⟨j,0,none⟩,val:=vv,born:=cl }]) (cl':=cl+1) (ces:=es'.map (BM m)++[{ key:=.pointer<|some ⟨m.I5 j,m.sh j,none⟩,val:=a.eval vo,born:=cl }]) (fun G A=>by have q1:=(st.act.F8 L) G A;have q2:=(st.act.F8 ev) G A;rw[J]at q1;simp only[y_,zQ,ez,dJ G A,BM,q1,q2]);have dO:(execOp a.eval o).run C.prog w=.ok .skip b:=by
  have q:(Instr.mapUpdate t (a.eval f) (a.eval y)<|a.eval vo).run C.prog w=.ok () b:=by simp only[XD,J,Instr.mapUpdate,zK,lX d w hd,zJ,Rx.run_getObj_map DO,qkc d S,g1];rw[<-e1];simp
  obtain g |g:=g;simp only[execOp,g,zK,q,zJ,zL];simp only[execOp,g,zK,q,zJ,zL]
 have n:=zce st.h R h1 M (N.snoc (k:=.ptr k 0 0) (v:=v) H rv cl) (cl1:=cl+1);refine A4 (by obtain g |g:=g<;>(rw[g];intro c hc;cases hc)) ?_;unfold Oper.wp;rw[dO];have em:(es.map pE++[⟨.ptr k 0 0,v,cl⟩])=(es++[(k,v,cl)]).map pE:=by simp[pE]
 rw[em]at n;exact hn _ ⟨x.I,z38 x.Y r ((es++[(k,v,cl)]).map pE)<|cl+1,z37 x.s i (es'++[{ key:=.pointer<|some ⟨j,0,none⟩,val:=vv,born:=cl }])<|cl+1⟩ (E7 tv o.dst undef) m b _ ⟨rfl,rfl⟩
  ⟨n.h,n.fr F st.fr,NW (n.mo.ke.E st.e.K3 st.e) (by simp[aF]) _,z.fits,(st.act.ext z.agree z.nx).put (QR fun _=>by simp[undef,H3,aL]) o.dst⟩ z n.mo.ke n.mo.nx (JR _ _ _)
theorem fY.AW{K st off:Nat}{lo:He}(ho:o.op=.slice t f (some lo) none none)(hd:T.I1 t=some (.slice e))(hs:cP T e=some (sz+1))(hx:cX tm f=some (.vl K st off 1))(hl:cX tm lo=some (.int .i64 1))
  (D:gt Y.h K=some (.vec l e' (sz+1) st)) (S:(off+1)*(sz+1)<=l.length):
  fY C Y tm o (fun u R=>(u=.vl K (st+1) 0 0/\R=⟨ug Y.h K<|.vec [] e' (sz+1)<|st+1,Y.nx⟩)\/(u=.O true []/\R=Y)):=fun F x tv m w a next Q g8 g hG hn ro fO=>by
 subst g8;obtain⟨vx,ex,rx⟩:=kG g.e hx;obtain⟨vl,el,rl⟩:=kG g.e hl;simp only[aF]at rl;subst rl;simp only[aF]at rx;obtain⟨_,hK,h0⟩:=rx;obtain⟨l2,W,sz2,N,O⟩:=(h0 _ D).2 rfl;cases N;obtain⟨_,L⟩:=g.h.ok K _ D;obtain⟨_,_,hB⟩:=L;obtain⟨Q_,_⟩|⟨i,G,kJ,H,hE⟩:=hB;rw[Q_]at S;simp at S;rw[kJ]at O;simp only[N7]at O;obtain⟨_,Z,_⟩|rfl:=O;omega;have hf:=g.fits.fits;obtain⟨pre,n,pG,pB,jN⟩:=(hf.ok i _ H:BR m i _ e' w (sz+1+2));have tQ:G.length=l.length:=hE.2.symm;have LL:1<=m.cp i-off:=by
  have r:(off+1)*(sz+1)<=m.cp i*(sz+1):=by omega
  have:=WU r af;omega
 have jk:dV m i (dC+off)=m.cp i-off:=by
  have h:¬ dC+off<dC:=by omega
  simp[dV,dA,h]
 have XD:a.eval f=.slice (some ⟨m.I5 i,m.sh i+off*(sz+1),none⟩) 1 (m.cp i-off):=by have z:=(g.act.F8 ex).at;simp only[H3,jk]at z;exact z.symm
 have mX:a.eval lo=.int .i64 1:=by have z:=(g.act.F8 el).at;simp only[H3]at z;exact z.symm
 have N:o9 1 1 (some<|.int .i64 1) none=some (1,1,1):=by decide
 obtain⟨V,_⟩:=Vr (P:=C.prog) (isS:=true) m w N LL;simp only[zM,Bm,H3,qcf,gj,MF]at V;have dO:(execOp a.eval o).run C.prog w=.ok (.value<|.slice (if m.cp i-off=1 then some ⟨m.I5 i,m.sh i+off*(sz+1),none⟩else some ⟨m.I5 i,m.sh i+off*(sz+1)+1*(sz+1),none⟩) 0<|m.cp i-off-1) w:=by simp only[execOp,ho,XD,zM,Bm,mX,Instr.sliceAt,zK,lX d w hd,zJ,Instr.slice,V,rR d w hs,zL,HR]
 refine A4 (by rw[ho];intro c hc;cases hc) ?_;unfold Oper.wp;rw[dO];have LC:=g.h.bd i _ H;by_cases M:m.cp i-off=1;rw[lr M,M];exact hn (.O true []) x (E7 tv o.dst<|.slice (some ⟨i,off*(sz+1),none⟩) 0 0) m w _ (.inr ⟨rfl,rfl⟩) ⟨g.h,g.fr,NW g.e (by simp only[aF];exact .inr ⟨i,off*(sz+1),0,rfl,(fun _=>⟨rfl,by simp[dC]⟩),.inl trivial⟩) _,g.fits,g.act.put (fun m' v=>by obtain⟨q1,q2,_⟩:=v i LC;simp[H3,q1,q2,dV,dC]) o.dst⟩ (bS.refl g.fits) (Ke.refl _ _) (zF _)<|JR _ _ _;rw[hF M];have A:bS m x.s w (m.set x.s.nx (m.I5 i) (m.sh i+off*(sz+1)+1*(sz+1))<|m.cp i-off-1) ⟨(x.s.nx,.inl ([],e',sz+1+2))::rm x.s.h i,x.s.nx+1⟩ w:=bS.rename g.fits H rfl _ _ (fun _ _=>rfl) rfl rfl rfl rfl (zF _) fun m' v=>by
  obtain⟨vZ,IE,SX⟩:=v x.s.nx<|zN _;obtain⟨e1,W,J⟩:=EE m x.s.nx (m.I5 i) (m.sh i+off*(sz+1)+1*(sz+1))<|m.cp i-off-1;have rC:(pre++aL m G++n).length=m.sh i+m.cp i*(sz+1):=by simp[pB];omega
  have hmul:m.cp i*(sz+1)=off*(sz+1)+1*(sz+1)+(m.cp i-off-1)*(sz+1):=by rw[<-dX,<-dX];congr 1;omega
  refine⟨(pre++aL m G++n).take (m.sh i+off*(sz+1)+1*(sz+1)),(pre++aL m G++n).drop (m.sh i+off*(sz+1)+1*(sz+1)),?_,?_,?_⟩;rw[vZ,e1,pG];simp[aL];rw[IE,W,Yz,rC];omega;rw[SX,J,yc,rC];simp only[zS];omega
 have q:=Uw g.h D (l1:=[]) (some x.s.nx) ⟨(x.s.nx,.inl ([],e',sz+1+2))::rm x.s.h i,x.s.nx+1⟩ (fun j b p cB=>by
   have r:x.s.nx≠j:=by have:=g.h.bd j b p;omega
   have B:i≠j:=fun h=>cB (by rw[kJ,h]);simp only[nU,r,MF,Lo,B];exact p)
  (fun j p=>by cases p;exact .inr<|zF _)
  (fun j b p=>by simp only[nU]at p;by_cases r:x.s.nx=j;show j<x.s.nx+1;omega;simp only[r,MF,Lo]at p;by_cases B:i=j;simp[B]at p;simp only[B,MF]at p;have:=g.h.bd j b p;show j<x.s.nx+1;omega)
  rfl (fun y _ _=>.inr ⟨x.s.nx,[],rfl,by simp[nU],bD.nil _⟩)
 exact hn (.vl K (st+1) 0 0) ⟨nI x.I K<|some x.s.nx,⟨ug x.Y.h K<|.vec [] e' (sz+1)<|st+1,x.Y.nx⟩,⟨(x.s.nx,.inl ([],e',sz+1+2))::rm x.s.h i,x.s.nx+1⟩⟩ (E7 tv o.dst<|.slice (some ⟨x.s.nx,0,none⟩) 0 dC) _ w _ (.inl ⟨rfl,rfl⟩)
  ⟨q.h,q.fr F g.fr,NW (q.mo.ke.E g.e.K3 g.e) (Uo g.h D rfl (.inr aZ)) _,A.fits,(g.act.ext A.agree A.nx).put (Cp (zN _) fun m' v=>by rw[Wd];obtain⟨_,_,J⟩:=EE m x.s.nx (m.I5 i) (m.sh i+off*(sz+1)+1*(sz+1))<|m.cp i-off-1;exact(v x.s.nx<|zN _).2.2.trans J) o.dst⟩ A q.mo.ke q.mo.nx (JR _ _ _)
end
def Lr(p:Nat->Prop):X Nat->Prop
 |[]=>True|i::l=>p i/\Lr p l
theorem Lr.mem{p:Nat->Prop}:∀{l:X Nat},Lr p l->∀i∈l,p i
 |j::l,h,i,a=>by obtain rfl |a:=zI.1 a;exact h.1;exact Lr.mem h.2 i a
def ul(C:PG)(T:Tb)(g:Jg Oper)(d n:Nat)(l:X (Nat×U))(Y:Sg)(K:X (Nat×U)->Sg->Prop)(i:Nat): Prop :=
  ∃o,nth g.toList i=some o/\cE g.toList (fr n l) o=some true/\h? n o.dst=true/\ ((∃u c,bJ T Y (fr n l) o.op=some (u,c)/\∃b a,Gh d (fr n<|Z4 l o.dst u) c (fr n b) a/\d<=a.nx/\K b a)\/ (∃f args R,kQ T (fr n l) o.op=some (f,args)/\b7 C.prog f args Y R/\∀u c,R u c->∃b a,Gh d (fr n<|Z4 l o.dst u) c (fr n b) a/\d<=a.nx/\K b a)\/ (∃R,fY C Y (fr n l) o R/\∀u c,R u c->∃b a,Gh d (fr n<|Z4 l o.dst u) c (fr n b) a/\d<=a.nx/\K b a))
def CM:X FK->Nat->FK
 |[],_=>false|b::_,0=>b
 |_::l,k+1=>CM l k
theorem Vb:∀(d:X FK)(k:Nat),CM d k=d.toArray.getD k false
 |[],k=>by simp[CM,Array.getD]
 |b::d,0=>by simp[CM,Array.getD]
 |b::d,k+1=>by rw[CM,Vb d k];simp[Array.getD]
def jl(d:X FK):X Edge->FK
 |[]=>true|e::l=>cond (Region.binds .any e) (cond (CM d e.on) (jl d l) false) (jl d l)
theorem qvh(d:X FK):∀(l:X Edge),jl d l=true↔∀e∈l,Region.binds .any e=true->d.toArray.getD e.on false=true
 |[]=>by simp[jl]
 |e::l=>by have g:=qvh d l;rw[jl];rcases c:Region.binds .any e with _|_;rw[zD,g];exact⟨fun h x a b=>by obtain rfl |a:=zI.1 a;(rw[c]at b;cases b);exact h x a b,fun h x a=>h x<|lu _ a⟩;rw[zC];rcases f:CM d e.on with _|_;rw[zD];exact⟨fun h=>(by cases h),fun h=>by have:=h e aZ c;rw[<-Vb,f]at this;cases this⟩;rw[zC,g];exact⟨fun h x a b=>by obtain rfl |a:=zI.1 a;(rw[<-Vb];exact f);exact h x a b,fun h x a=>h x<|lu _ a⟩
def J7(d:X FK):Nat->X Oper->X Nat
 |_,[]=>[]|i,o::a=>cond (CM d i) (J7 d (i+1) a) (cond (jl d o.after.toList) (i::J7 d (i+1) a)<|J7 d (i+1) a)
theorem z4y(d:X FK): ∀(b:X Oper)(i j:Nat),j∈J7 d i b↔∃k o,j=i+k/\b[k]? = some o/\CM d j=false/\jl d o.after.toList=true
  |[],i,j=> by simp[J7]
  |o::b,i,j=> by
    have m:=z4y d b (i+1) j;have tl:(∃k a,j=i+1+k/\b[k]? = some a/\CM d j=false/\jl d a.after.toList=true)->∃k a,j=i+k/\(o::b)[k]? = some a/\CM d j=false/\jl d a.after.toList=true:=fun⟨k,a,s,c,f⟩=> ⟨k+1,a,by omega,by simpa using c,f⟩;have g:(∃k a,j=i+k/\(o::b)[k]? = some a/\CM d j=false/\jl d a.after.toList=true)->(j=i/\CM d i=false/\jl d o.after.toList=true)\/∃k a,j=i+1+k/\b[k]? = some a/\CM d j=false/\jl d a.after.toList=true:=fun⟨k,a,s,c,f,n⟩=> by
      cases k with
      | zero => simp at c; subst c; have : j = i := by omega
                subst this;exact .inl ⟨rfl,f,n⟩
      |succ k=> exact .inr ⟨k,a,by omega,by simpa using c,f,n⟩
    rw[J7];cases r:CM d i with
    |true=> rw[zC,m];exact⟨tl,fun h=> (g h).elim (fun q=> by rw[r]at q;cases q.2.1) id⟩|false=>rw[zD];rcases p:jl d o.after.toList with _|_;rw[zD,m];exact⟨tl,fun h=> (g h).elim (fun q=> by rw[p]at q;cases q.2.2) id⟩;rw[zC,zI,m];exact⟨fun h=> h.elim (fun q=> ⟨0,o,by omega,rfl,by rw[q];exact r,p⟩) tl,fun h=> (g h).imp (·.1) id⟩
theorem SR(a:Jg Oper)(d:X FK)(q:d.length=a.size)(i:Nat):i∈Region.ready .any a d.toArray↔i∈J7 d 0 a.toList:=by
 rw[z4y];unfold Region.ready;rw[T!,qcF];constructor;rintro⟨m,h⟩;have c:a[i]? = some a[i]:=by simp[m]
 simp only[c,zM,jf,eR,zp,qbF,nH]at h;refine⟨i,a[i],by omega,by simpa using c,?_,(qvh d _).2 fun e j g=>?_⟩;rw[Vb];have b:=h.1;have n:i<d.length:=by omega
 simpa[Array.getD,n]using b;rcases h.2 e (by simpa using j)with b |b;simp[g]at b;exact b;rintro⟨k,o,rfl,b,f,p⟩;rw[Ty]at f ⊢;have c:a[k]? = some o:=by simpa using b
 have m:k<a.size:=(Array.getElem?_eq_some_iff.1 c).1;refine⟨m,?_⟩;simp only[c,zM,jf,eR,zp,qbF,nH];refine⟨?_,fun e j=>?_⟩;rw[Vb]at f;have n:k<d.length:=by omega
 simpa[Array.getD,n]using f;rcases g:Region.binds .any e with _|_;exact .inl rfl;exact .inr ((qvh d _).1 p e (by simpa using j) g)
def RI(C:PG)(T:Tb)(a:Jg Oper)(b n:Nat)(Q:Exit->X U->Sg->Prop):Nat->X FK->X (Nat×U)->Sg->Prop
 |0,d,l,Y=>J7 d 0 a.toList=[]/\∃f c,Gh b (fr n l) Y (fr n f) c/\b<=c.nx/\Q .normal (fr n f) c|k+1,d,l,Y=>(J7 d 0 a.toList).isEmpty=false/\Lr (fun j=>ul C T a b n l Y (RI C T a b n Q k<|d.set j true) j) (J7 d 0 a.toList)
section
variable{C:PG}{T:Tb}(b:jW C.prog T){n0 n:Nat}{c:Jg Oper}{Q:Exit->X U->Sg->Prop}
include b
theorem UB{ro:V Nat}(fO:C.ro ro){F:Nat->nT->Prop}{x0:Cx}{m0:Nm}{w0:Ep}{E:Exit->Act->Ep->Prop}{df:X Deferred}(OU:Z0 C n0 x0 m0 w0)(yK:gZ m0 x0.s w0)(hQ:∀y tm D m w a,Q .normal tm y.Y->St F y tm D m w a->bS m0 x0.s w0 m y.s w->Ke n0 x0 y->n0<=y.Y.nx->a.defers=df->E .normal a w):
  ∀(k:Nat)(d:X FK)(a:Act)(w:Ep)(m:Nm)(l:X (Nat×U))(D:X Value)(x:Cx),d.length=c.size->RI C T c n0 n Q k d l x.Y->St F x (fr n l) D m w a->bS m0 x0.s w0 m x.s w->Ke n0 x0 x->n0<=x.Y.nx->a.defers=df->wpAnyIn (CP ro) 0 C.prog .any c E k d.toArray a w:=by
 intro k;induction k with
 |zero=>intro d a w m l D x hd h st M P jL nG;obtain⟨B,L,K,W,S,O⟩:=h;obtain⟨z,g1,g2,g3,g4,g5,g6⟩:=W F x D rfl st.h st.fr st.e;have ga:=g1 m w st.fits;refine⟨?_,hQ z _ D m w a (by rw[g2];exact O) ⟨g3,g4,g5,ga.fits,st.act.ext ga.agree ga.nx⟩ (M.trans ga) (P.trans g6) (by rw[g2];exact S) nG⟩;refine eq_nil_iff_forall_not_mem.2 fun i hi=>?_;rw[SR c d hd,B]at hi;cases hi
 |succ k ih=>
  intro d a w m l D x Z h st M P jL nG;obtain⟨hr,he⟩:=h;refine⟨fun Gv=>?_,fun j hj=>?_⟩;exfalso;rcases O:J7 d 0 c.toList with _|⟨i,q⟩;rw[O]at hr;cases hr;have:=(SR c d Z i).2 (by rw[O];simp);rw[Gv]at this;cases this;rw[SR c d Z]at hj;obtain⟨o,N,hw,hd,hs⟩:=Lr.mem he j hj;have N:c[j]? = some o:=by rw[lW]at N;simpa using N
  rw[show d.toArray.setIfInBounds j true=(d.set j true).toArray by simp];have I:∀y u A t p v,(∃L K,Gh n0 (fr n<|Z4 l o.dst u) y.Y (fr n L) K/\n0<=K.nx/\RI C T c n0 n Q k (d.set j true) L K)->St F y (eS (fr n l) o.dst u) A t p v->bS m x.s w t y.s p->Ke x.Y.nx x y->v.defers=a.defers->wpAnyIn (CP ro) 0 C.prog .any c E k (d.set j true).toArray v p:=fun y u A t p v ⟨L,K,W,S,hK⟩ r G H J=>by rw[uD u hd]at r;obtain⟨z,g1,g2,g3,g4,g5,g6⟩:=W F y A rfl r.h r.fr r.e;have ga:=g1 t p r.fits;exact ih _ v p t L A z (by simpa using Z) (by rw[g2];exact hK) ⟨g3,g4,g5,ga.fits,r.act.ext ga.agree ga.nx⟩ (M.trans<|G.trans ga) (P.trans<|(H.le jL).trans g6) (by rw[g2];exact S) (J.trans nG)
  unfold wpOpIn;simp only[N];rw[qoe (st.act m<|aP.refl _ _) c o,JO st.e hw];simp only[It];obtain⟨u,s1,B,h2⟩|⟨f,args,R,B,h2,h3⟩|⟨R,B,h3⟩:=hs;exact A4 (UU B) (st.op b o B fun y A t p v e1 r G H oF J=>I y u A t p v (by rw[e1];exact h2) r G H J);exact A4 (I' B)<|st.call b o B h2 fun y u A t p v hR r G H oF J=>I y u A t p v (h3 u _ hR) r G H J;exact B F x D m w a _ _ rfl st ⟨Zt OU.nb jL,(OU.kB yK M P).g⟩ (fun u y A t p v hR r G H oF J=>I y u A t p v (h3 u _ hR) r G H J) ro fO
theorem I6.any{id:Nat}{l lF:X (Nat×U)}{Y YF:Sg}(h:Q .normal (fr n lF) YF->RI C T c n0 n Q c.size (replicate c.size false) l Y)(O:Q .normal (fr n lF) YF):I6 C n0 (.region id c true) (fr n l) Y Q:=fun u F x A m w a D g st s t ro j=>by
 refine wpIn_region_any b.mixed ?_;rw[show(Array.replicate c.size false)=(replicate c.size false).toArray by simp];refine UB b (ro:=ro) j (n0:=n0) (F:=F) (x0:=x) (m0:=m) (w0:=w) (df:=a.defers) s st.fits (fun y d i z E B v o f p q r=>⟨y,d,i,z,v,o,f,p,q,by rw[r];exact t.kB st.fits f⟩) c.size _ a _ m l A x aZ (g ▸ h O) ⟨st.h,st.fr,st.e,(bS.draw _ st.fits).fits,st.act⟩ (bS.draw _ st.fits) (Ke.refl _ _) (g ▸ u) rfl
end
def qA(Y:Sg):Prop:=∀k b,gt Y.h k=some b->k<Y.nx/\cc Y.nx b
theorem jV.wf{x:Cx}(h:jV x):qA x.Y:=fun k b a=>⟨(h.ok k b a).1,(h.ok k b a).2.kU⟩
theorem b7.wf{P:Ua}{f:FuncId}{args:X U}{Y:Sg}{Q:U->Sg->Prop}(h:qA Y->aH Y.nx args->b7 P f args Y Q):b7 P f args Y Q:=fun F x n m w a b d i c g j=>h (b ▸ d.wf) (b ▸ c.K3) F x n m w a b d i c g j
variable{N:Nat}{tm:X U}{H:X (Nat×B)}{Y:Sg}
theorem Gh.back{d:Nat}(g:qA Y)(o:∀k,k<Y.nx->gt H k=gt Y.h k)(m:Y.nx<=N)(n:aH Y.nx tm)(i:d<=Y.nx):Gh d tm ⟨H,N⟩ tm Y:=by
 have f:∀k,gt (Vx.cut Y.nx H) k=gt Y.h k:=fun k=>by rw[Bt];by_cases c:k<Y.nx;rw[lr c,o k c];rw[hF c];rcases a:gt Y.h k with _|b;rfl;exact absurd (g k b a).1 c
 have j:Gh d tm ⟨H,N⟩ tm ⟨Vx.cut Y.nx H,Y.nx⟩:=Gh.pU (Y:=⟨H,N⟩) i m n fun k b a=>by rw[f]at a;exact(g k b a).2
 exact j.trans (Gh.same (Y:=⟨Vx.cut Y.nx H,Y.nx⟩) Y.h fun k=>(f k).symm)
section
variable{T:Tb}{n:Nat}{l:X (Nat×U)}{rs:X ResultVar}{u:U}{R:U->Sg->Prop}
theorem Zj{b:X U}(o:qA Y)(p:mF T ⟨H,N⟩ (fr n l) rs=some b)(m:nD b=u)(j:∀k,k<Y.nx->gt H k=gt Y.h k)(f:Y.nx<=N)(i:aW Y.nx u)(g:R u Y):
  (Exit.ret=.normal\/Exit.ret=.ret)/\∃c,mF T ⟨H,N⟩ (fr n l) rs=some c/\∃d a,Y.nx<=a.nx/\Gh Y.nx [nD c] ⟨H,N⟩ [d] a/\R d a :=
 ⟨.inr rfl,b,p,u,Y,zF _,by subst m;exact Gh.back o j f (by simp only[aH,cO];exact i)<|zF _,g⟩
variable{c:Sg}
theorem Zi{b:X U}(j:mF T Y (fr n l) rs=some b)(i:nD b=u)(g:c.nx<=Y.nx)(h:R u Y):
  (Exit.ret=.normal\/Exit.ret=.ret)/\∃d,mF T Y (fr n l) rs=some d/\∃f a,c.nx<=a.nx/\Gh c.nx [nD d] Y [f] a/\R f a :=
 ⟨.inr rfl,b,j,u,Y,g,by subst i;exact Gh.refl _ _ _,h⟩
variable{a:Tmp}{t:X ResultVar}
theorem D?(q:qA Y)(p:rs=.tmp a::t)(h:bN n l (.tmp a)=some u)(g:t=[])(o:∀k,k<Y.nx->gt H k=gt Y.h k)(i:Y.nx<=N)(m:aW Y.nx u)(j:R u Y):
  (Exit.ret=.normal\/Exit.ret=.ret)/\∃d,mF T ⟨H,N⟩ (fr n l) rs=some d/\∃f b,Y.nx<=b.nx/\Gh Y.nx [nD d] ⟨H,N⟩ [f] b/\R f b:=by subst p;subst g;exact Zj q (dP h dU) rfl o i m j
theorem Bj{b:Tmp}{v:U}(s:qA Y)(r:rs=.tmp a :: .tmp b::t)(h:bN n l (.tmp a)=some u)(i:bN n l (.tmp b)=some v)(j:t=[])(q:∀k,k<Y.nx->gt H k=gt Y.h k)(m:Y.nx<=N)(p:aW Y.nx (.a7 [u,v]))(o:R (.a7 [u,v]) Y):
  (Exit.ret=.normal\/Exit.ret=.ret)/\∃f,mF T ⟨H,N⟩ (fr n l) rs=some f/\∃g d,Y.nx<=d.nx/\Gh Y.nx [nD f] ⟨H,N⟩ [g] d/\R g d:=by subst r;subst j;exact Zj s (dP h<|dP i dU) rfl q m p o
theorem EB(m:rs=.tmp a::t)(h:bN n l (.tmp a)=some u)(g:t=[])(i:c.nx<=Y.nx)(j:R u Y):
  (Exit.ret=.normal\/Exit.ret=.ret)/\∃d,mF T Y (fr n l) rs=some d/\∃f b,c.nx<=b.nx/\Gh c.nx [nD d] Y [f] b/\R f b:=by subst m;subst g;exact Zi (dP h dU) rfl i j
theorem Bi{b:Tmp}{v:U}(p:rs=.tmp a :: .tmp b::t)(h:bN n l (.tmp a)=some u)(i:bN n l (.tmp b)=some v)(j:t=[])(m:c.nx<=Y.nx)(o:R (.a7 [u,v]) Y):
  (Exit.ret=.normal\/Exit.ret=.ret)/\∃f,mF T Y (fr n l) rs=some f/\∃g d,c.nx<=d.nx/\Gh c.nx [nD f] Y [g] d/\R g d:=by subst p;subst j;exact Zi (dP h<|dP i dU) rfl m o
end
section
variable{T:Tb}{n:Nat}{l:X (Nat×U)}{h:X (Nat×B)}{nx:Nat}{op:Op}
theorem CE{k off:Nat}{x:He}{q:X U}{e:TypeId}(a:op=.nilCheck x)(b:bN n l x=some (.ptr k 0 off))[g:eK h k (.row q e)]:bJ T ⟨h,nx⟩ (fr n l) op=some (.ptr k 0 off,⟨h,nx⟩):=by subst a;exact lV b (by simp only[live,g.h];rfl)
end
variable{A:Prop}
theorem iI (h:A:=by first
 |exact Go.Vx.CE rfl rfl
 |exact Go.Vx.vG):A:=h
theorem L6 (h:A:=by first
 |exact Go.Vx.CE rfl rfl
 |exact Go.Vx.iW):A:=h
section
variable{T:Tb}{a r:X Oper}{o:Oper}{n:Nat}{l:X (Nat×U)}{Y Y':Sg}{u:U}
theorem RS.on{C:PG}{K:X U->Sg->Prop}{d:Tmp}(f:RU C T a r (fr n ((d,u)::l)) Y' K)(h:bJ T Y (fr n l) o.op=some (u,Y'):=by exact Go.Vx.iI)(c:o.dst=some d:=by exact rfl)(g:cE a (fr n l) o=some true:=by exact Go.Vx.wA)(b:blt d n=true:=by exact rfl):RU C T a (o::r) (fr n l) Y K:=RS.op g h c b f
theorem RD.on{P:Ua}{b:X RK}{K:X RK->X U->Sg->Prop}{d:Tmp}(g:RH P T a r (fr n ((d,u)::l)) Y ((1,⟨fr n l,o,u,false,false,Y,Y⟩)::b) K)(h:bJ T Y (fr n l) o.op=some (u,Y):=by exact Go.Vx.L6)(f:o.dst=some d:=by exact rfl)(i:cE a (fr n l) o=some true:=by exact Go.Vx.wA)(c:blt d n=true:=by exact rfl):RH P T a (o::r) (fr n l) Y b K:=RD.look i h f c g
end
theorem goN{B:Prop}(h:B)(g:Hd B->A:=by intro h;(repeat' first |refine Go.Vx.gs ?_ |refine Go.Vx.RS.on ?_ |refine Go.Vx.AK rfl ?_);exact h.h):A:=g ⟨h⟩
theorem gnN{B:Prop}(h:B)(g:Hd B->A:=by intro h;(repeat' first |refine Go.Vx.gs ?_ |refine Go.Vx.RS.on ?_);exact h.h):A:=g ⟨h⟩
theorem cC{B:Prop}(h:B) (g:Hd B->A:=by
 intro h
 repeat' first
  |(refine Go.Vx.RD.nt rfl rfl rfl ?_ rfl ?_;· first |with_reducible_and_instances assumption |exact rfl)
  |(refine Go.Vx.RD.nf rfl rfl rfl ?_ rfl ?_;· first |with_reducible_and_instances assumption |exact rfl)
  |refine Go.Vx.RD.on ?_
 exact h.h):A:=g ⟨h⟩
variable{K:Nat}
theorem Mr(b:B)(d:Nat){c:B}(h:cc K c):ek K b d c=c:=by
 cases c with
 |row l e=>simp only[ek];rw[vS _ _ _ h]|vec l e s st=>simp only[ek];rw[vS _ _ _ h]
 |map i f=>simp only[ek,B.map.injEq,cO];exact X2 (g:=id) (fun e a=>by rw[Q5 _ _ _ (h e a).2];rfl)|>.trans aZ
theorem Mu{n k:Nat}(h:n<=k){b:B}(a:cc n b):cc k b:=by
 cases b with
 |row l e=>exact aH.le h _ a|vec l e s st=>exact aH.le h _ a
 |map f d=>exact fun e c=>⟨aW.le h _ (a e c).1,aW.le h _ (a e c).2⟩
variable{sz:Nat}{f:Type}{e:TypeId}
theorem Rm{a st:Nat}{c:f->X U}{xs:X f}{tm':X U}(d:qA Y)(m:Y.nx<=K)(p:gt H K=some (.bv c xs e sz st))(r:∀k,k<Y.nx->gt H k=gt Y.h k)(n:Y.nx<=N)(s:iO K (.bv c xs e sz st) sz tm=tm')(o:aH Y.nx tm')(i:a<=Y.nx):Gh a tm ⟨H,N⟩ tm' Y:=by have j:Gh a tm ⟨H,N⟩ tm' ⟨dd K (.bv c xs e sz st) sz H,N⟩:=Gh.fz (Y:=⟨H,N⟩) K (.bv c xs e sz st) sz p nofun s rfl;refine j.trans<|Gh.back d (fun k q=>?_) n o i;rw[D0,hF af,r k q];rcases g:gt Y.h k with _|b;rfl;simp only[zM];rw[Mr _ _<|Mu m (d k b g).2]
instance(priority:=50){h:X (Nat×B)}{K:Nat}{b:B}:YX h K b (ug h K b):=⟨rfl⟩
section
variable{T:Tb}{n:Nat}{l:X (Nat×U)}{h:X (Nat×B)}{nx nx':Nat}{op:Op}
theorem oAe{c:f->X U}{x y:He}{t o r s:TypeId}{args:Jg He}{m:Jg TypeId}{a off d j:Nat}{z:Value}{ys:X f}{b:FK}{q:X U}(w:op=.call { callee:=.builtin .append,args:=args,argTypes:=m })(u:args.toList=[x,y])(E:m.toList=[t,o])(F:bN n l x=some (.sl a off 0 0))(G:bN n l y=some (.O b<|ys.map c))[d1:eJ T t (.slice e)][d2:eJ T o (.slice s)][i:iE T e d j z][g:eK h a (.row q r)][J:gX c d][v:ca nx nx'](C:ble 1 d=true)(D:ble off q.length=true)(I:Nat.beq z.cells.toList.length d=true)(L:ys.length*j<=140737488355328/\ys.length<=140737488355328):bJ T ⟨h,nx⟩ (fr n l) op=some (.vl nx 0 0 ys.length,⟨(nx,.bv c ys e d 0)::h,nx'⟩):=by subst w;have p:=v.h;subst p;obtain⟨sz,rfl⟩:∃sz,d=sz+1:=⟨d-1,by have:=zY C;omega⟩;exact qV (Y:=⟨h,nx⟩) u E F G (Ce c ys d1.h d2.h i.h I (by simp only[rowOf,g.h]) D (QB c J.h) L)
end
theorem I6.wf{C:PG}{d:Nat}{c:Code}{tm:X U}{Y:Sg}{Q:Exit->X U->Sg->Prop}(h:qA Y->aH Y.nx tm->I6 C d c tm Y Q):I6 C d c tm Y Q:=fun o F x q m w a g b st j n p i=>h (b ▸ st.h.wf) (b ▸ st.e.K3) o F x q m w a g b st j n p i
theorem Gh.first{m st:Nat}{l:X U}(hw:qA Y)(hK:Y.nx<=K)(hN:K<N)(Q:gt H K=some (.vec l e sz st))(G:∀k,k<Y.nx->gt H k=gt Y.h k)(a:aH Y.nx l):Gh Y.nx [.vl K st 0 m] ⟨H,N⟩ [.vl Y.nx st 0 m] ⟨(Y.nx,.vec l e sz st)::Y.h,Y.nx+1⟩:=fun F x tv hx hr hf W=>by
 have n:x.Y.h=H:=by rw[hx]
 have KV:x.Y.nx=N:=by rw[hx]
 let y:Cx:=⟨fun k=>if k=Y.nx then x.I K else x.I k,⟨(Y.nx,.vec l e sz st)::Y.h,Y.nx+1⟩,x.s⟩
 have hnone:∀k,Y.nx<=k->gt Y.h k=none:=fun k d=>by rcases hq:gt Y.h k with _|b;rfl;have:=(hw k b hq).1;omega
 have M:Mo Y.nx x y:=⟨fun k d kY=>⟨Ze d,fun V r=>by
  have g:gt y.Y.h k=gt Y.h k:=by show gt ((Y.nx,_)::Y.h) k=_;rw[aR,hF af]
  rw[g,<-G k d,<-n]at r;exact⟨V,r,zF _,fun _=>⟨by show(if k=Y.nx then _ else _)=_;rw[hF af],fun l e sz st h=>⟨l,h⟩⟩⟩⟩,fun _ _ _ h=>h⟩
 have L:∀k b,gt y.Y.h k=some b->(k=Y.nx/\b=.vec l e sz st)\/(k<Y.nx/\gt Y.h k=some b):=fun k b a=>by have a:gt ((Y.nx,B.vec l e sz st)::Y.h) k=some b:=a;rw[aR]at a;by_cases e:Y.nx=k;rw[lr e]at a;cases a;exact .inl ⟨e.symm,rfl⟩;rw[hF e]at a;exact .inr ⟨(hw k b a).1,a⟩
 have t:∀k,k<Y.nx->y.I k=x.I k:=fun k d=>by show(if k=Y.nx then _ else _)=_;rw[hF af]
 have T:y.I Y.nx=x.I K:=by show(if Y.nx=Y.nx then _ else _)=_;rw[lr rfl]
 refine⟨y,fun m w hf=>bS.refl hf,rfl,⟨fun k b yH=>?_,fun k z b V i a r g o=>?_,hr.bd⟩,fun i b O=>?_,?_,M.ke⟩;obtain⟨rfl,rfl⟩|⟨d,a⟩:=L k b yH;refine⟨zN _,?_⟩;obtain⟨_,J,Z,p⟩:=hr.ok K _ (by rw[n];exact Q);refine⟨J,Z,?_⟩;rw[T];obtain p |⟨i,R,C,D,u⟩:=p;exact .inl p;exact .inr ⟨i,R,C,D,M.ke.E a u⟩;refine⟨Ze d,?_⟩;have h0:gt x.Y.h k=some b:=by rw[n,G k d];exact a
 have xA:=(hw k b a).2;obtain⟨_,p⟩:=hr.ok k b h0;cases b with
 |row q e'=>obtain⟨J,i,R,C,D,u⟩:=p;exact⟨J,i,R,by rw[t k d];exact C,D,M.ke.E xA u⟩
 |vec q e' iB bL=>obtain⟨J,Z,p⟩:=p;refine⟨J,Z,?_⟩;rw[t k d];obtain p |⟨i,R,C,D,u⟩:=p;exact .inl p;exact .inr ⟨i,R,C,D,M.ke.E xA u⟩
 |map es cl=>obtain⟨i,es',C,D,u⟩:=p;refine⟨i,es',by rw[t k d];exact C,D,u.1,fun j e W=>?_⟩;obtain⟨v,q1,q2,q3,q4⟩:=u.2 j e W;have P:=xA e<|zX W;exact⟨v,q1,M.ke _ _ P.1 q2,M.ke _ _ P.2 q3,q4⟩
 obtain⟨rfl,rfl⟩|⟨d,a⟩:=L k b a;obtain⟨rfl,_⟩|⟨S,r⟩:=L z V r;rfl;rw[T]at g;rw[t z S]at o;have:=hr.inj K z _ _ i (by rw[n];exact Q) (by rw[n,G z S];exact r) g o;omega;obtain⟨rfl,rfl⟩|⟨S,r⟩:=L z V r;rw[T]at o;rw[t k d]at g;have:=hr.inj k K _ _ i (by rw[n,G k d];exact a) (by rw[n];exact Q) g o;omega;rw[t k d]at g;rw[t z S]at o;exact hr.inj k z _ _ i (by rw[n,G k d];exact a) (by rw[n,G z S];exact r) g o;obtain⟨g,o⟩:=hf i b O;refine⟨g,fun k c hc=>?_⟩;obtain⟨rfl,rfl⟩|⟨d,a⟩:=L k c hc;rw[T];exact o K _ (by rw[n];exact Q);rw[t k d];exact o k _ (by rw[n,G k d];exact a);obtain⟨v,vs,rfl,g,o⟩:=W.inv;have:=o.K4;subst this;refine bD.cons ?_<|bD.nil y;simp only[aF]at g ⊢;obtain⟨J,Z,k3⟩:=g;refine⟨J,zN _,fun b a=>?_⟩;obtain⟨_,rfl⟩|⟨d,_⟩:=L _ b a;obtain⟨g1,g2⟩:=k3 _ (by rw[n];exact Q);refine⟨g1,fun h=>?_⟩;rw[T];exact g2 h;omega
theorem fY.op{C:PG}{T:Tb}(r:jW C.prog T){Y c:Sg}{tm:X U}{o:Oper}{u:U}(h:bJ T Y tm o.op=some (u,c)):fY C Y tm o (fun E D=>E=u/\D=c):=fun F x L m w a next Q q st I s J G=>by
 subst q;exact A4 (UU h) (st.op r o h fun y n d b i p j g t v z=>s u y n d b i ⟨rfl,p⟩ j g t v z)
theorem fY.mono{C:PG}{o:Oper}{R c:U->Sg->Prop}(h:fY C Y tm o R)(z:∀u s,R u s->c u s):fY C Y tm o c:=fun F x v m w a next Q n st p r t j=>h F x v m w a next Q n st p (fun u y i d b g q=>r u y i d b g<|z _ _ q) t j
section
variable{C:PG}{T:Tb}{a r:X Oper}{o:Oper}{n:Nat}{l:X (Nat×U)}{Y:Sg}{K:X U->Sg->Prop}{R:U->Sg->Prop}
theorem DY{d:Tmp}(g:o.dst=some d)(j:fY C Y (fr n l) o R)(i:∀u b,R u b->RU C T a r (fr n ((d,u)::l)) b K)(m:cE a (fr n l) o=some true:=by exact Go.Vx.wA)(c:blt d n=true:=by exact rfl):RU C T a (o::r) (fr n l) Y K :=
 .inr (.inr<|.inr<|.inr ⟨m,R,j,fun u b h=>by rw[g,uD (d:=some d) u c];exact i u b h⟩)
theorem RS.lS(c:o.dst=none)(g:fY C Y (fr n l) o R)(d:∀u b,R u b->RU C T a r (fr n l) b K)(i:cE a (fr n l) o=some true:=by exact Go.Vx.wA):RU C T a (o::r) (fr n l) Y K :=
 .inr (.inr<|.inr<|.inr ⟨i,R,g,fun u b h=>by rw[c];exact d u b h⟩)
end
section
variable{T:Tb}{Y:Sg}{n:Nat}{l:X (Nat×U)}{v w:U}
theorem Kj(c:f->X U)(d:X f){t p j:TypeId}{g a st off:Nat}{z:Value}{b W:X f}(C:T.I1 t=some (.slice e))(u:T.I1 p=some (.slice j))(E:T.inf e=some (sz+1,g,z))(O:Nat.beq z.cells.toList.length (sz+1)=true)(y:∀x,(c x).length=sz+1)(D:gt Y.h a=some (.vec (b.map c).flatten e (sz+1) st))(L:b.drop off=W)(F:off<=b.length)(i:off=0\/W≠[])(M:0<d.length)(J:xP Y (sz+1) w=some (d.length,(d.map c).flatten))(Q:(W.length+d.length)*g<=140737488355328/\W.length+d.length<=140737488355328):EF T Y t p (.vl a st off W.length) w=some (.vl a (st+1) 0 (W++d).length,⟨ug Y.h a<|.vec ((W++d).map c).flatten e (sz+1) (st+1),Y.nx⟩):=by
 subst L;have q:Nat.beq st st=true:=by simp[beq_eq]
 have r:Nat.beq e e=true:=by simp[beq_eq]
 have s:Nat.beq (sz+1) (sz+1)=true:=by simp[beq_eq]
 have m:∀l:X f,(l.map c).flatten.length=l.length*(sz+1):=fun l=>FX y l;have I:mD (b.map c).flatten (off*(sz+1)) ((b.drop off).length*(sz+1))=some ((b.drop off).map c).flatten:=by
  have o:(b.map c).flatten=((b.take off).map c).flatten++((b.drop off).map c).flatten:=by rw[<-flatten_append,<-y_,l7]
  have j:((b.take off).map c).flatten.length=off*(sz+1):=by rw[m,Yz,pg F]
  unfold mD;rw[lr (by rw[o,zU,j,m];omega),o,<-j,qcG,zW (by rw[m];exact zF _)]
 have P:0<d.length/\(off=0\/0<(b.drop off).length)\/off=0/\(b.drop off).length*(sz+1)=(b.map c).flatten.length:=by
  refine .inl ⟨M,?_⟩;obtain i |i:=i;exact .inl i;exact .inr (by cases G:b.drop off with
   |nil=>exact absurd G i|cons=>simp)
 rw[qxb,zU];simp only[EF,C,u,E,O,zC,J,D,q,r,s,I,Q.1,Q.2,dG,P,It]
end
theorem uY.bp{P:Ua}{T:Tb}{n:Nat}{l:X (Nat×U)}{t:TypeId}{b:Nat}{z:Value}{c cs:X U}{x:He}{u:U}(j:T.I1 t=some (.slice e))(p:T.inf e=some (sz,b,z))(a:bN n l x=some u)(d:ble (1*sz) 16777216=true)(g:Nat.beq z.cells.toList.length sz=true)(s:rN z.cells.toList=some c)(o:tC (fun i=>some (i*sz,sz)) (zE c 1) [(0,u)]=some cs)(q:I8 cs=true)(r:cs.length=sz)(h:∀m,aW m u->aH m cs):uY P T (fr n l) (.buildSlice t 1 #[(0,x)]) (.O false [cs]):=by refine .inr ⟨1,sz,cs,e,fun Y=>vQ j p (show E9 n l [(0,x)]=some [(0,u)] by simp[E9,a]) d rfl g s o q,by omega,fun m hm=>h m (hm x (by simp[Op.operands]) u<|dY a),?_⟩;rw[show bR sz 1 cs=[cs] by simp[bR,<-r]]
theorem kF{k nx:Nat}{b:B}{h:X (Nat×B)}(a:k<nx):gt ((nx,b)::h) k=gt h k:=by rw[aR,hF af]
end Go.Vx
namespace Go.Proofs
open Go Go.Rx Go.Vx Tryz
instance:w8 tb 95 [.b6,.int .i64 0] [(0,1),(1,1)]:=⟨xH un95.h if95.h rfl ag⟩
instance:w8 tb 97 [.int .i64 0,.int .i64 0] [(0,1),(1,1)]:=⟨xH Qb.h T'.h rfl ag⟩
instance:w8 tb 99 [.J,.int .i64 0] [(0,1),(1,1)]:=⟨xH un99.h if99.h rfl ag⟩
instance:w8 tb 101 [.bool false,.int .i64 0] [(0,1),(1,1)]:=⟨xH Tp.h zj.h rfl ag⟩
instance:w8 tb 103 [.int .i64 0,.J,.b6,.int .i64 0,.int .i64 0,.int .i64 0,.J,.int .i64 0,.b6,.int .i64 0,.bool false,.int .i64 0] [(0,1),(1,1),(2,2),(4,2),(6,2),(8,2),(10,2)]:=⟨xH Tn.h nW.h rfl ag⟩
instance:w8 tb 107 [.int .i64 0,.b6] [(0,1),(1,1)]:=⟨xH Tm.h EL.h rfl ag⟩
structure eN where
 f:Int
 to:Nat
structure PN where
 kind:Int
 E3:X eN
 fw:V Nat
 c3:Int
 mt:Int
 b8:Int
 more:X eN
 K2:Int
 cp:V Nat
 c6:Int
 ch:FK
 c4:Int
abbrev pt(nm:Nat->Nat)(i:Nat):U:=.ptr (nm i) 0 0
def po(nm:Nat->Nat):V Nat->U
 |none=>.b6|some i=>pt nm i
def bZ(nm:Nat->Nat)(a:eN):X U:=[.int .i64 a.f,pt nm a.to]
def pZ(nm:Nat->Nat)(x:PN):X U:=[.i6 x.kind,.iM (bZ nm) x.E3,po nm x.fw,.i6 x.c3,.i6 x.mt,.i6 x.b8,.iM (bZ nm) x.more,.i6 x.K2,po nm x.cp,.i6 x.c6,.bool x.ch,.i6 x.c4]
instance{nm:Nat->Nat}:gX (bZ nm) 2:=⟨fun _=>rfl⟩
theorem getP(Y:Sg)(nm:Nat->Nat)(o:V Nat)(a b:Int):b7 prog 71 [.agg [po nm o,.i6 a],.i6 b] Y (fun u g=>u=.a7 [po nm<|cond (a != b) none o,.bool<|!(a != b)]/\g=Y):=by
 refine b7.wf fun f e=>?_;simp only[aH,aW,cO,dG]at e;obtain⟨h,nx⟩:=Y
 haveI:ca nx (nx+1):=⟨rfl⟩
 obtain _ |i:=o
 all_goals
  refine eO 14 B0 ?_;refine go ?_;refine eE rfl (fun c=>?_) (fun c=>?_);refine go ?_;exact Bj f rfl rfl rfl rfl (fun k d=>kF d) (MD _) (by simp[aW,aH]) ⟨by rw[c];rfl,rfl⟩;refine go ?_;exact Bj f rfl rfl rfl rfl (fun k d=>kF d) (MD _) (by simp only[aW,aH,cO];exact e) ⟨by rw[c];rfl,rfl⟩
theorem kc(Y:Sg)(v a b:Int):b7 prog 108 [.agg [.i6 v,.i6 a],.i6 b] Y (fun u f=>u=.a7 [.i6<|cond (a != b) 0 v,.bool<|!(a != b)]/\f=Y):=by
 refine b7.wf fun e g=>?_;obtain⟨h,nx⟩:=Y
 haveI:ca nx (nx+1):=⟨rfl⟩
 refine eO 14 M9 ?_;refine go ?_;refine eE rfl (fun c=>?_) (fun c=>?_);refine go ?_;exact Bj e rfl rfl rfl rfl (fun k d=>kF d) (MD _) (by simp[aW,aH]) ⟨by rw[c];rfl,rfl⟩;refine go ?_;exact Bj e rfl rfl rfl rfl (fun k d=>kF d) (MD _) (by simp[aW,aH]) ⟨by rw[c];rfl,rfl⟩
theorem Ik(Y:Sg)(v:FK)(a b:Int):b7 prog 69 [.agg [.bool v,.i6 a],.i6 b] Y (fun u f=>u=.a7 [.bool<|cond (a != b) false v,.bool<|!(a != b)]/\f=Y):=by
 refine b7.wf fun e g=>?_;obtain⟨h,nx⟩:=Y
 haveI:ca nx (nx+1):=⟨rfl⟩
 refine eO 14 T3 ?_;refine go ?_;refine eE rfl (fun c=>?_) (fun c=>?_);refine go ?_;exact Bj e rfl rfl rfl rfl (fun k d=>kF d) (MD _) (by simp[aW,aH]) ⟨by rw[c];rfl,rfl⟩;refine go ?_;exact Bj e rfl rfl rfl rfl (fun k d=>kF d) (MD _) (by simp[aW,aH]) ⟨by rw[c];rfl,rfl⟩
theorem SY(Y:Sg)(nm:Nat->Nat)(v:X eN)(a b:Int):b7 prog 104 [.agg [.iM (bZ nm) v,.i6 a],.i6 b] Y (fun u g=>u=.a7 [.iM (bZ nm)<|cond (a != b) [] v,.bool<|!(a != b)]/\g=Y):=by
 refine b7.wf fun f e=>?_;simp only[aH,aW,cO,dG]at e;obtain⟨h,nx⟩:=Y
 haveI:ca nx (nx+1):=⟨rfl⟩
 refine eO 14 B8 ?_;refine go ?_;refine eE rfl (fun c=>?_) (fun c=>?_);refine go ?_;refine⟨.inr rfl,_,dP rfl (dP rfl dU),.a7 [.O false [],.bool false],⟨h,nx⟩,zF _,?_,by rw[c];rfl,rfl⟩;exact(Gh.wk<|.cons (.a7<|.cons (.nil false)<|.cons (.refl _) .nil) .nil).trans (Gh.back f (fun k d=>kF d) (MD _) (by simp[aH,aW,lU])<|zF _);refine go ?_;exact Bj f rfl rfl rfl rfl (fun k d=>kF d) (MD _) (by simp only[aW,aH,cO];exact e) ⟨by rw[c];rfl,rfl⟩
variable{nm:Nat->Nat}
theorem Bk{o:V Nat}{a b:Int}{t:FK}{v:U}(d:(a != b)=t)(e:po nm (cond t none o)=v)(Y:Sg):b7 prog 71 [.agg [po nm o,.i6 a],.i6 b] Y (fun u c=>u=.a7 [v,.bool<|!t]/\c=Y):=by subst d;subst e;exact getP Y nm o a b
structure PP where
 H:cR
 N:X PN
 roots:X Nat
 size:Int
 gen:Int
def eD(nm:Nat->Nat)(i:Nat):X U:=[pt nm i]
instance{nm:Nat->Nat}:gX (eD nm) 1:=⟨fun _=>rfl⟩
def tX(a st:Nat)(P:PP):X U:=[.iM hZ P.H.Types,.iM jC P.H.E6,.vl a st 0 P.roots.length,.i6 P.size,.i6 P.gen]
def GT(n:Nat):V Nat->Prop
 |none=>True|some i=>i<n
structure lQ(n:Nat)(x:PN):Prop where
 E3:∀a∈x.E3,a.to<n
 fw:GT n x.fw
 more:∀a∈x.more,a.to<n
 cp:GT n x.cp
structure PH(kp kr st:Nat)(nm:Nat->Nat)(P:PP)(h:X (Nat×B)):Prop where
 b5:gt h kp=some (.row (tX kr st P) 83)
 roots:gt h kr=some (.vec (P.roots.map (eD nm)).flatten 92 1 st)
 node:∀i x,P.N[i]? = some x->gt h (nm i)=some (.row (pZ nm x) 103)
 inj:∀i j,i<P.N.length->j<P.N.length->nm i=nm j->i=j
 wf:∀x∈P.N,lQ P.N.length x
 rt:∀r∈P.roots,r<P.N.length
def uX(N:X PN)(g:Int):Nat->Nat->V Nat
 |0,_=>none|m+1,p=>a8 N[p]? fun x=>cond (x.c3 != g) (some p) (a8 x.fw fun q=>uX N g m q)
section
variable{kp a st:Nat}{nm:Nat->Nat}{P:PP}{h:X (Nat×B)}{nx:Nat}
theorem PH.gp(p:PH kp a st nm P h):eK h kp (.row [.iM hZ P.H.Types,.iM jC P.H.E6,.vl a st 0 P.roots.length,.i6 P.size,.i6 P.gen] 83):=⟨p.b5⟩
theorem PH.gn(p:PH kp a st nm P h){i:Nat}{x:PN}(b:P.N[i]? = some x):eK h (nm i) (.row [.i6 x.kind,.iM (bZ nm) x.E3,po nm x.fw,.i6 x.c3,.i6 x.mt,.i6 x.b8,.iM (bZ nm) x.more,.i6 x.K2,po nm x.cp,.i6 x.c6,.bool x.ch,.i6 x.c4] 103):=⟨p.node i x b⟩
theorem Ut(p:PH kp a st nm P h)(n:Nat){i r:Nat}(O:uX P.N P.gen n i=some r):b7 prog 66 [.ptr kp 0 0,pt nm i] ⟨h,nx⟩ (fun u d=>u=pt nm r/\d=⟨h,nx⟩):=by
 haveI:=p.gp
 refine eO 23 B6 ?_;refine goN ?_;refine gL (fun m g Y=>∃i,uX P.N P.gen m i=some r/\g=fr 23 [(0,.ptr kp 0 0),(1,pt nm i)]/\Y=⟨h,nx⟩) (fun _ _=>False) n ⟨i,O,rfl,rfl⟩ (fun _ _ h=>h.elim) ?_<|zF _;rintro(_ |m) _ _ ⟨i,O,rfl,rfl⟩;cases O;obtain⟨x,f,O⟩:=aJ O
 haveI:=p.gn f
 refine goN ?_;apply cK;refine goN ?_;refine dE [] ?_;refine cC ?_;cases c:x.c3 != P.gen with
 |true=>rw[c]at O;obtain rfl:=sI O;refine dN rfl (Bk c rfl) B0 ?_;refine cC ?_;refine bB ⟨by kernel_rfl,trivial,?_⟩;refine goN ?_;refine eE rfl (fun b=>?_) (fun b=>by cases b);refine goN ?_;exact EB rfl rfl rfl (zF _) ⟨rfl,rfl⟩
 |false=>rw[c]at O;obtain⟨q,e,O⟩:=aJ O;refine dN rfl (Bk (v:=pt nm q) c (by rw[e];rfl)) B0 ?_;refine cC ?_;refine bB ⟨by kernel_rfl,trivial,?_⟩;refine goN ?_;refine eE rfl (fun b=>by cases b) (fun b=>?_);refine goN ?_;exact⟨m,_,_,zN _,⟨q,O,rfl,rfl⟩,zF _,Gh.sub<|by((repeat refine⟨rfl,?_⟩);exact trivial)⟩
end
theorem Nh{n:Nat}(l:X eN)(e:∀a∈l,nm a.to<n):lU n (l.map<|bZ nm):=by rw[Ni];intro c d;obtain⟨a,b,rfl⟩:=mem_map.1 d;simp only[bZ,pt,aH,aW,cO,dG];exact e a b
theorem qq5(h:X (Nat×B))(nx:Nat)(nm:Nat->Nat)(l:X eN)(m:l.length<=1000000):b7 prog 105 [.iM (bZ nm) l] ⟨h,nx⟩ (fun u f=>u=.vl nx 0 0 l.length/\f=⟨(nx,.bv (bZ nm) l 107 2 0)::h,nx+1⟩):=by
 refine b7.wf fun i d=>?_
 haveI:ca nx (nx+1):=⟨rfl⟩
 refine mJ 8 F3 ?_;refine goN ?_;refine RS.pP rfl rfl (by exact eJ.h) rfl rfl rfl rfl (fun z j=>?_);refine goN ?_;refine eE rfl (fun b=>?_) (fun b=>?_);have:l=[]:=by have:=j b;simpa using this
 subst this;refine goN ?_;exact⟨.inr rfl,_,dP rfl dU,.vl nx 0 0 0,⟨(nx,.vec [] 107 2 0)::h,nx+1⟩,MD _,Gh.kT (Y:=⟨h,nx⟩) (tm:=[.J]) 0 107 2 bF (zF _) rfl,rfl,rfl⟩;refine goN ?_
 haveI:ca (nx+1) (nx+2):=⟨rfl⟩
 refine bP ?_;refine goN ?_;refine RS.w rfl (oAe (c:=bZ nm) (ys:=l) rfl rfl rfl rfl rfl rfl rfl rfl ⟨by omega,by omega⟩) ?_;refine goN ?_;refine⟨.inr rfl,_,dP rfl dU,.vl nx 0 0 l.length,_,?_,Gh.first (Y:=⟨h,nx⟩) (K:=nx+1) (N:=nx+2) i (MD _) (zN _) (by simp[aR]) (fun k e=>?_) ?_,rfl,rfl⟩;exact MD _;have e:k<nx:=e;rw[aR,hF af,aR,hF af];simp only[aH,aW,cO]at d;rw[y4];intro u a;obtain⟨c,g,a⟩:=mem_flatten.1 a;exact(y4 _ _).1 ((Ni _ _).1 d c g) u a
def iF(g:Int)(x:PN):Int:=cond (x.b8 != g) x.kind x.mt
def iC(g:Int)(x:PN):X eN:=cond (x.K2 != g) [] x.more
def bY(g:Int)(x:PN):X eN:=x.E3++iC g x
section
variable{kp b st:Nat}{nm:Nat->Nat}{P:PP}{h:X (Nat×B)}{nx:Nat}{i:Nat}{x:PN}
theorem Us(p:PH kp b st nm P h)(e:P.N[i]? = some x):b7 prog 70 [.ptr kp 0 0,pt nm i] ⟨h,nx⟩ (fun u d=>u=.i6 (iF P.gen x)/\d=⟨h,nx⟩):=by
 haveI:=p.gp
 haveI:=p.gn e
 refine eO 25 B5 ?_;refine goN ?_;refine dE [] ?_;refine cC ?_;refine dN rfl (fun s=>kc s x.mt x.b8 P.gen) M9 ?_;refine cC ?_;refine bB ⟨by kernel_rfl,trivial,?_⟩;refine goN ?_;refine eE rfl (fun a=>?_) (fun a=>?_);refine goN ?_;have c:(x.b8 != P.gen)=false:=by simpa using a
 exact EB rfl rfl rfl (zF _) ⟨by rw[iF,c];rfl,rfl⟩;refine goN ?_;have c:(x.b8 != P.gen)=true:=by simpa using a
 exact EB rfl rfl rfl (zF _) ⟨by rw[iF,c];rfl,rfl⟩
theorem PH.lt(p:PH kp b st nm P h)(c:qA ⟨h,nx⟩)(a:i<P.N.length):nm i<nx:=(c _ _<|p.node i _<|lq a).1
theorem PH.qS(p:PH kp b st nm P h)(f:qA ⟨h,nx⟩)(j:P.N[i]? = some x)(g:Int):∀a∈bY g x,nm a.to<nx:=fun a c=>by
 have d:=p.wf x<|zX j;obtain c |c:=yD.1 c;exact p.lt f<|d.E3 a c;unfold iC at c;rcases e:x.K2 != g with _|_;rw[e]at c;exact p.lt f<|d.more a c;rw[e]at c;cases c
theorem qus(p:PH kp b st nm P h)(d:P.N[i]? = some x)(l:(bY P.gen x).length<=1000000):b7 prog 72 [.ptr kp 0 0,pt nm i] ⟨h,nx⟩ (fun u g=>u=.iM (bZ nm) (bY P.gen x)/\g=⟨h,nx⟩):=by
 refine b7.wf fun a _=>?_;have f:=Nh (nm:=nm) (n:=nx) _<|p.qS a d P.gen;rw[bY,zU]at l
 haveI:=p.gp
 haveI:=p.gn d
 refine eO 26 GN ?_;refine goN ?_;refine dE [] ?_;refine cC ?_;refine dN rfl (fun s=>SY s nm x.more x.K2 P.gen) B8 ?_;refine cC ?_;refine bB ⟨by kernel_rfl,trivial,?_⟩;refine goN ?_;refine j8 rfl (hJ rfl F3 rfl).2 (qq5 h nx nm x.E3 af) rfl rfl ?_;rintro _ _ ⟨rfl,rfl⟩;refine goN ?_;refine RS.w rfl (wS (c:=bZ nm) (xs:=x.E3) (ys:=iC P.gen x) rfl rfl rfl rfl rfl rfl rfl rfl ⟨by omega,by omega⟩) ?_;refine goN ?_;refine⟨.inr rfl,_,dP rfl dU,_,⟨h,nx⟩,zF _,Rm (c:=bZ nm) (xs:=bY P.gen x) (e:=107) (sz:=2) (K:=nx) (st:=1) a (zF _) (by simp[aR,bY]) (fun k j=>kF j) (MD _) (tm':=[.iM (bZ nm)<|bY P.gen x]) ?_ (by simp only[aH,aW,cO];exact f)<|zF _,rfl,rfl⟩;exact congrArg (fun u=>[u]) (HL (c:=bZ nm) (sz:=2) (fun _=>rfl) (bY P.gen x) nx 2 107 1)
end
def CL{a:Type}(q:a->FK)(l:X a):Int:=match l.findIdx? q with
 |some i=>(i:Int)|none=>-1
theorem zaf{Y:Sg}{l:X eN}{g:FuncId}{fn:Func}{cap:X U}{q:eN->FK}(r:tb.fn g=some fn)(k:fn.body.isSome=true)(x:l.length<=1000000)(s:∀a∈l,b7 prog g (.agg (bZ nm a)::cap) Y fun u d=>u=.bool (q a)/\d=Y):
  b7 prog 102 [.iM (bZ nm) l,.fn (.func g) [] cap] Y (fun u d=>u=.i6 (CL q l)/\d=Y):=by
 refine eO 19 MA ?_;refine goN ?_;refine gL (fun m p d=>∃i:Nat,m=l.length-i/\i<=l.length/\(∀(j:Nat)(a:eN),j<i->l[j]? = some a->q a=false)/\p=fr 19 [(0,.iM (bZ nm) l),(1,.fn (.func g) [] cap),(7,.i6 l.length),(8,.i6 i)]/\d=Y) (fun p d=>CL q l= -1/\p=fr 19 []/\d=Y) (l.length-0) ⟨0,rfl,qq _,fun j a c=>af,rfl,rfl⟩ ?_ ?_<|zF _;rintro _ _ ⟨h,rfl,rfl⟩;refine goN ?_;exact EB rfl rfl rfl (zF _) ⟨by rw[h],rfl⟩;rintro m _ _ ⟨i,rfl,w,n,rfl,rfl⟩;refine goN ?_;refine eE rfl (fun h=>?_) (fun h=>?_)
 ·have f:i<l.length:=by simpa using h
  obtain⟨a,e⟩:∃a,l[i]? = some a:=⟨l[i],lq f⟩;have v:aB l (i:Int)=some a:=by rw[aB,lr ⟨by omega,by omega⟩];simpa using e
  refine goN ?_;apply cK;refine goN ?_;refine c8 v ?_;refine goN ?_;refine j8 rfl (qW rfl rfl r k rfl aZ) (s a<|zX e) rfl rfl ?_;rintro _ _ ⟨rfl,rfl⟩;refine goN ?_;refine eE rfl (fun o=>?_) (fun o=>?_);refine goN ?_;refine EB rfl rfl rfl (zF _) ⟨?_,rfl⟩;have:l.findIdx? q=some i:=by rw[qci];refine⟨f,?_,fun j c=>?_⟩;rw[lq f]at e;cases e;exact o;have:=n j _ c<|lq af;simp[this]
  rw[CL,this]
  ·refine goN ?_;have t:i64.wrap ((i:Int)+1)=((i+1:Nat):Int):=by rw[oX af af];rfl
   refine⟨l.length-(i+1),_,_,by omega,⟨i+1,rfl,f,fun j b c k=>?_,rfl,rfl⟩,zF _,Gh.sub ?_⟩;obtain c |rfl:=Nat.lt_succ_iff_lt_or_eq.1 c;exact n j b c k;rw[e]at k;cases k;exact o
   ·rw[<-t];(repeat refine⟨rfl,?_⟩);exact trivial
 refine goN ?_;refine⟨_,_,⟨?_,rfl,rfl⟩,zF _,Gh.sub trivial⟩;have f:i=l.length:=by have:¬ (i:Int)<l.length:=(by simpa using h);omega
 have:l.findIdx? q=none:=by rw[R_];intro a e;obtain⟨j,c⟩:=Zc e;exact n j a (by rw[f];exact(zG.1 c).1) c
 rw[CL,this]
theorem zd9{h:X (Nat×B)}{nx K:Nat}{y:eN}(b:gt h K=some (.row (bZ nm y) 107))(a:eN):b7 prog 103 (.agg (bZ nm a)::[.ptr K 0 0]) ⟨h,nx⟩ (fun u d=>u=.bool (a.f==y.f)/\d=⟨h,nx⟩):=by
 refine b7.wf fun c _=>?_;have e:K<nx:=(c _ _ b).1
 haveI:ca nx (nx+1):=⟨rfl⟩
 haveI:eK ((nx,.row (bZ nm a) 107)::h) K (.row [.i6 y.f,pt nm y.to] 107):=⟨by rw[kF e];exact b⟩
 refine eO 9 YM ?_;refine goN ?_;exact D? c rfl rfl rfl (fun k g=>kF g) (MD _) (by simp[aW]) ⟨rfl,rfl⟩
def cW(nm:Nat->Nat)(w:Nat×Nat):X U:=[pt nm w.1,pt nm w.2]
inductive WK(nm:Nat->Nat)(nx:Nat)(W:List (Nat×Nat))(u:U)(H:List (Nat×B)):Prop
 |vl (K st off:Nat) (xs:List (Nat×Nat)) (hu:u=.vl K st off W.length) (hg:gt H K=some (.bv (cW nm) xs 200 2 st)) (hx:xs.drop off=W) (ho:off<=xs.length) (hz:off=0\/W≠[]) (hK:nx<=K)
 |em (hu:u=.O true []) (hW:W=[])
variable{nm:Nat->Nat}{nx:Nat}{W:X (Nat×Nat)}{u:U}{H:X (Nat×B)}
theorem WK.len{N:Nat}(w:WK nm nx W u H):yU tb ⟨H,N⟩ 201 u=some (.int .i64 W.length):=by cases w with|vl K st off xs a c f e g d=>subst a;exact Eu mM.h c|em a b=>subst a;subst b;exact qvb (cW nm) mM.h (xs:=[])
theorem zbp{m:Nat}(h:1<=m):o9 m m (some<|.int .i64 1) none=some (1,m,m):=by have a:uH 1 (m+1)=true:=NR ⟨by omega,by omega⟩;simp[o9,zR,a]
variable{n:Nat}
theorem WK.cut{C:PG}(j:jW C.prog tb){w:Nat×Nat}{N:Nat}{l:X (Nat×U)}{o:Oper}{x:He}(wk:WK nm nx (w::W) u H)(p:o.op=.slice 201 x (some<|.const<|.int .i64 1) none none)(t:bN n l x=some u):
  fY C ⟨H,N⟩ (fr n l) o (fun i A=>∃e K,A=⟨e,N⟩/\WK nm nx W i e/\nx<=K/\(∃q s,gt H K=some (.vec q 200 2 s))/\∀k,k≠K->gt e k=gt H k):=by
 cases wk with|em r D=>cases D|vl K st off xs r a d E G b=>
 subst r;have f:xs.length=off+(W.length+1):=by have:=congrArg List.length d;rw[yc]at this;simp at this;omega
 have y:(xs.map<|cW nm).flatten.length=xs.length*2:=FX (c:=cW nm) (fun _=>rfl) xs;have z:xs.drop (off+1)=W:=by have:=congrArg List.tail d;simpa[tail_drop]using this
 cases W with
 |nil=>refine(fY.AW j p mM.h (aV tJ.h) (dY t) rfl a (by rw[y];simp at f;omega)).mono ?_;rintro i s (⟨rfl,rfl⟩|⟨rfl,rfl⟩);exact⟨_,K,rfl,.vl K (st+1) 0 [] rfl (by rw[bV,lr rfl,a];rfl) rfl (zF _) (.inl rfl) b,b,⟨_,_,a⟩,fun k g=>by rw[bV,hF<|WV g]⟩;exact⟨_,K,rfl,.em rfl rfl,b,⟨_,_,a⟩,fun k g=>rfl⟩
 |cons v W=>
  have F:bJ tb ⟨H,N⟩ (fr n l) o.op=some (.vl K st (off+1) (v::W).length,⟨H,N⟩):=by rw[p];refine tE t rfl rfl ?_;have:=Kz (Y:=⟨H,N⟩) (cW nm) mM.h (aV tJ.h) (fun _=>rfl) (K:=K) (st:=st) (off:=off) (m:=(w::v::W).length) (xs:=xs) (e':=200) (by simp[pR,a,B.bv]) (by simp at f ⊢;omega)<|zbp aZ;rw[this];simp
  refine(fY.op j F).mono ?_;rintro i s ⟨rfl,rfl⟩;exact⟨H,K,rfl,.vl K st (off+1) xs rfl a z (by simp at f;omega) (.inr aZ) b,b,⟨_,_,a⟩,fun k g=>rfl⟩
def RX(g:Int)(p:Nat)(a:X eN):X eN->X (Nat×Nat)->X PN->V (X (Nat×Nat)×X PN)
 |[],W,N=>some (W,N)|y::b,W,N=>cond (decide (CL (fun z=>z.f==y.f) a>=0)) (a8 (aB a<|CL (fun z=>z.f==y.f) a) fun z=>aE (W.length<=1000000)<|RX g p a b (W++[(z.to,y.to)]) N) (a8 N[p]? fun x=>aE ((iC g x).length<=1000000)<|RX g p a b W<|N.set p { x with more:=iC g x++[y],K2:=g })
def MW(H:cR)(g:Int)(n:Nat):Nat->X (Nat×Nat)->X PN->V (FK×X PN)
 |0,_,_=>none|_+1,[],N=>some (true,N)
 |m+1,w::W,N=>
  a8 (uX N g n w.1) fun p=>
  a8 (uX N g n w.2) fun q=>cond (Nat.beq p q) (MW H g n m W N) (a8 N[p]? fun x=>
   a8 N[q]? fun y=>
   a8 (FY n H (iF g x)<|iF g y) fun r=>cond (!r.2) (some (false,N)) (aE ((bY g x).length<=1000000/\(bY g y).length<=1000000) (a8 (RX g p (bY g x) (bY g y) W N) fun s=>
    a8 s.2[p]? fun a=>
    a8 (s.2.set p { a with mt:=r.1,b8:=g })[q]? fun b=>
    MW H g n m s.1 ((s.2.set p { a with mt:=r.1,b8:=g }).set q { b with fw:=some p,c3:=g }))))
section
variable{kp v st:Nat}{nm:Nat->Nat}{P:PP}{h:X (Nat×B)}{nx:Nat}{i:Nat}{x:PN}
theorem PH.lH(p:PH kp v st nm P h){y:PN}(l:P.N[i]? = some x)(A:lQ P.N.length y)(q:gt H (nm i)=some (.row (pZ nm y) 103))(d:∀k b,gt h k=some b->k≠nm i->gt H k=some b):PH kp v st nm { P with N:=P.N.set i y } H:=by
 have f:i<P.N.length:=(zG.1 l).1;have g:=p.node i x l;refine⟨d _ _ p.b5 fun e=>?_,d _ _ p.roots fun e=>?_,fun j z c=>?_,fun a b s t=>p.inj a b (by simpa using s) (by simpa using t),fun z c=>?_,fun r C=>by simpa using p.rt r C⟩;have:=p.b5;rw[e,g]at this;simp at this;have:=p.roots;rw[e,g]at this;cases this;rw[ja]at c;by_cases e:i=j;subst e;rw[lr rfl,lr f]at c;cases c;exact q;rw[hF e]at c;have w:j<P.N.length:=(zG.1 c).1;exact d _ _ (p.node j z c) fun o=>e<|p.inj i j f w o.symm;have m:(P.N.set i y).length=P.N.length:=by simp
 show lQ (P.N.set i y).length z;rw[m];obtain c |rfl:=H_ c;exact p.wf z c;exact A
theorem PH.S0(p:PH kp v st nm P h){K:Nat}{q:X U}{s:Nat}(f:gt h K=some (.vec q 200 2 s))(d:∀k b,gt h k=some b->k≠K->gt H k=some b):PH kp v st nm P H:=by
 have a:∀k b,gt h k=some b->(∀q s,b≠.vec q 200 2 s)->gt H k=some b:=fun k b c g=>d k b c fun e=>by rw[e,f]at c;cases c;exact g _ _ rfl
 exact⟨a _ _ p.b5 aZ,a _ _ p.roots (by simp[eD]),fun i x j=>a _ _ (p.node i x j) aZ,p.inj,p.wf,p.rt⟩
theorem PH.put(p:PH kp v st nm P h)(y:PN)(a:P.N[i]? = some x)(e:lQ P.N.length y):PH kp v st nm { P with N:=P.N.set i y } (ug h (nm i)<|.row (pZ nm y) 103):=
 p.lH a e (by rw[bV,lr rfl,p.node i x a];rfl) fun k b c d=>by rw[bV,hF<|WV d];exact c
theorem WK.S0{nx:Nat}(w:WK nm nx W u h)(b:∀k q s,gt h k=some (.vec q 200 2 s)->gt H k=some (.vec q 200 2 s)):WK nm nx W u H:=by cases w with|vl K st off l a e g f j c=>exact .vl K st off l a (b _ _ _ e) g f j c|em a d=>exact .em a d
theorem WK.put(p:PH kp v st nm P h){c:Nat}(w:WK nm c W u h)(d:P.N[i]? = some x)(b:B):WK nm c W u (ug h (nm i) b):=
 w.S0 fun k q s a=>by rw[bV,hF fun e=>?_];exact a;rw[<-e,p.node i x d]at a;cases a
theorem PH.more(p:PH kp v st nm P h)(a:∀k b,gt h k=some b->gt H k=some b):PH kp v st nm P H :=
 ⟨a _ _ p.b5,a _ _ p.roots,fun i x c=>a _ _<|p.node i x c,p.inj,p.wf,p.rt⟩
theorem Q9{g:Int}(w:lQ n x):∀a∈bY g x,a.to<n:=fun a b=>by
 obtain b |b:=yD.1 b;exact w.E3 a b;unfold iC at b;rcases c:x.K2 != g with _|_;rw[c]at b;exact w.more a b;rw[c]at b;cases b
theorem E!{g:Int}(w:lQ n x):∀a∈iC g x,a.to<n:=fun a b=>Q9 (g:=g) w a (yD.2<|.inr b)
theorem Me{nm:Nat->Nat}{M:Nat}(a:∀k,k<n->nm k<M):∀{o:V Nat},GT n o->aW M (po nm o)
 |none,_=>trivial|some i,h=>a i h
theorem WK.K3{nx:Nat}{M:Nat}(w:WK nm nx W u h)(c:qA ⟨h,M⟩):aW M u:=by cases w with|vl K st off k a b g f j d=>subst a;exact(c K _ b).1|em a e=>subst a;simp[aW,lU]
theorem X'{N:X PN}{g:Int}:∀{n i r:Nat},uX N g n i=some r->∃x,N[r]? = some x
 |0,_,_,h=>by cases h
 |n+1,i,r,h=>by
  obtain⟨x,b,h⟩:=aJ h;cases a:x.c3 != g with
  |true=>rw[a]at h;obtain rfl:=sI h;exact⟨x,b⟩
  |false=>rw[a]at h;obtain⟨q,_,h⟩:=aJ h;exact X' h
theorem ZH(p:PH kp v st nm P h)(n:Nat){a b:Nat}{r:FK×X PN}(O:MW P.H P.gen n n [(a,b)] P.N=some r):
  b7 prog 65 [.ptr kp 0 0,pt nm a,pt nm b] ⟨h,nx⟩ (fun u Y'=>∃H N,u=.bool r.1/\Y'=⟨H,N⟩/\PH kp v st nm { P with N:=r.2 } H/\r.2.length=P.N.length/\nx<=N/\∀k,k<nx->(∀i,i<P.N.length->nm i≠k)->gt H k=gt h k):=by
 refine b7.wf fun v7 _=>?_;refine w4 129 yb ?_;refine goN ?_;refine RS.w (u:=.agg [pt nm a,pt nm b]) rfl (JM (qs:=[(0,pt nm a),(1,pt nm b)]) rfl ag) ?_;refine goN ?_;refine RS.step (u:=.vl nx 0 0 1) (Y':=⟨(nx,.bv (cW nm) [(a,b)] 200 2 0)::h,nx+1⟩) rfl ?_ rfl rfl ?_;exact fY.jD (k:=1) (cs:=(List.map (cW nm) [(a,b)]).flatten) bQ rfl mM.h tJ.h rfl rfl rfl rfl rfl rfl rfl rfl;refine goN ?_;have p0:PH kp v st nm P ((nx,.bv (cW nm) [(a,b)] 200 2 0)::h):=p.more fun k b F=>by rw[kF (v7 k b F).1];exact F
 refine gL (fun m tm Y=>∃W N uw H I,MW P.H P.gen n m W N=some r/\tm=fr 129 [(0,.ptr kp 0 0),(7,uw)]/\Y=⟨H,I⟩/\PH kp v st nm { P with N:=N } H/\WK nm nx W uw H/\N.length=P.N.length/\nx<=I/\∀k,k<nx->(∀i,i<P.N.length->nm i≠k)->gt H k=gt h k)
  (fun tm Y=>tm=fr 129 []/\r.1=true/\∃H I,Y=⟨H,I⟩/\PH kp v st nm { P with N:=r.2 } H/\r.2.length=P.N.length/\nx<=I/\∀k,k<nx->(∀i,i<P.N.length->nm i≠k)->gt H k=gt h k) n
  ⟨[(a,b)],P.N,.vl nx 0 0 1,_,_,O,rfl,rfl,p0,.vl nx 0 0 [(a,b)] rfl (by simp[aR]) rfl (qq _) (.inl rfl) (zF _),rfl,MD _,fun k A _=>kF A⟩ ?_ ?_ (MD _)
 rintro _ _ ⟨rfl,h1,H,I,rfl,h2,h3,h4,h5⟩;refine goN ?_;exact EB rfl rfl rfl h4 ⟨H,I,by rw[h1],rfl,h2,h3,h4,h5⟩;rintro(_ |m) _ _ ⟨W,N,uw,H,I,O,rfl,rfl,hp,GE,aT,jL,fW⟩;cases O;refine goN ?_;refine RS.w rfl (HP rfl rfl rfl GE.len) ?_;refine goN ?_;cases W with
 |nil=>obtain rfl:=sI O;refine eE rfl (fun h1=>by cases h1) (fun h1=>?_);refine goN ?_;exact⟨_,_,⟨rfl,rfl,H,I,rfl,hp,aT,jL,fW⟩,jL,Gh.sub trivial⟩
 |cons w W=>
 cases GE with|em hu hW=>cases hW|vl K bL off xs hu Z M ho hz hK=>
 subst hu;have qY:gU xs off (w::W).length 0=some w:=by rw[gU,lr ⟨by omega,by simp⟩];have:=congrArg (fun l=>l[0]?) M;simpa using this
 have hv:pR ⟨H,I⟩ K bL=some ((xs.map<|cW nm).flatten,200,2):=by simp[pR,Z,B.bv]
 have Gz:live ⟨H,I⟩ K bL=true:=by simp[live,Z,B.bv,B.st]
 refine eE rfl (fun h1=>?_) (fun h1=>by simp at h1);obtain⟨i,hi,j,hj,O⟩:=bO O;refine goN ?_;apply cK;refine goN ?_;refine dE [] ?_;refine cC ?_;refine aQ rfl (cV rfl rfl (WS (cW nm) mM.h (aV tJ.h) bF (fun _=>rfl) hv qY)) ?_;refine aQ (u:=.ptr K bL<|off*2+(0:Int).toNat*2+0) rfl (cV rfl rfl (FP U2.h (aV jI.h) Gz ⟨by decide,by decide⟩ rfl)) ?_;refine aQ (u:=pt nm w.1) rfl (HK (cW nm) iP.h rfl (fun _=>rfl) rfl Z qY rfl) (RD.call rfl (hJ rfl B6 rfl).2 (Ut hp n hi) rfl rfl ?_);refine cC ?_;refine aQ rfl (cV rfl rfl (WS (cW nm) mM.h (aV tJ.h) bF (fun _=>rfl) hv qY)) ?_;refine aQ (u:=.ptr K bL<|off*2+(0:Int).toNat*2+1) rfl (cV rfl rfl (FP U2.h (aV jI.h) Gz ⟨by decide,by decide⟩ rfl)) ?_;refine aQ (u:=pt nm w.2) rfl (HK (cW nm) iP.h rfl (fun _=>rfl) rfl Z qY rfl) (RD.call rfl (hJ rfl B6 rfl).2 (Ut hp n hj) rfl rfl ?_);refine cC ?_;refine bB ⟨by kernel_rfl,trivial,?_⟩;refine goN ?_;refine DY rfl (WK.cut bQ (.vl K bL off xs rfl Z M ho hz hK) rfl rfl) ?_;rintro uw _ ⟨H',K',rfl,GE,hK',⟨q',s',L_⟩,pA⟩;have J:=hp.S0 L_ (fun k b F A=>by rw[pA k A];exact F);have Ho:∀k,k<nx->(∀i,i<P.N.length->nm i≠k)->gt H' k=gt h k:=fun k A L=>by rw[pA k af,fW k A L]
 clear fW pA L_ Z M ho hz qY hv Gz hp;obtain⟨x,M⟩:=X' hi;obtain⟨y,hy⟩:=X' hj;have kZ:i<N.length:=(zG.1 M).1;have j0:j<N.length:=(zG.1 hy).1;have AV:Nat.beq (nm i) (nm j)=Nat.beq i j:=by rw[beq_eq,beq_eq];by_cases e:i=j;simp[e];have:nm i≠nm j:=fun h=>e<|J.inj i j kZ j0 h;simp[e,this]
 refine goN ?_;refine DY rfl (fY.peq bQ rfl (.inl rfl) iP.h (aV nW.h) (dY rfl) (dY rfl) (J.node i x M) (J.node j y hy)) ?_;rintro _ _ ⟨rfl,rfl⟩;refine goN ?_;refine eE rfl (fun h2=>?_) (fun h2=>?_)
 ·rw[lr rfl,AV]at h2;rw[h2]at O;refine goN ?_;exact⟨m,_,_,zN _,⟨W,N,uw,H',I,O,rfl,rfl,J,GE,aT,jL,Ho⟩,jL,Gh.sub<|by((repeat refine⟨rfl,?_⟩);exact trivial)⟩
 rw[lr rfl,AV]at h2;rw[h2]at O;obtain⟨x',sK,O⟩:=aJ O;rw[M]at sK;cases sK;obtain⟨y',nX,O⟩:=aJ O;rw[hy]at nX;cases nX;obtain⟨r1,BD,O⟩:=aJ O
 haveI:=J.gp
 refine goN ?_;refine dE [] ?_;refine cC ?_;refine RD.call rfl (hJ rfl B5 rfl).2 (Us J M) rfl rfl ?_;refine cC ?_;refine RD.call rfl (hJ rfl B5 rfl).2 (Us J hy) rfl rfl ?_;refine cC ?_;refine dN rfl (pC<|qn8 n P.H _ _ r1 BD) Ix ?_;refine cC ?_;refine bB ⟨by kernel_rfl,trivial,?_⟩;refine goN ?_;refine eE rfl (fun h3=>?_) (fun h3=>?_);rw[h3]at O;obtain rfl:=sI O;refine goN ?_;exact EB rfl rfl rfl jL ⟨H',I,rfl,rfl,J,aT,jL,Ho⟩;rw[h3]at O;obtain⟨⟨yF,S9⟩,O⟩:=bU O;obtain⟨s,hs,O⟩:=aJ O;have F_:∀a∈bY P.gen y,a.to<P.N.length:=by rw[<-aT];exact Q9 (J.wf y<|zX hy)
 refine goN ?_;refine aM rfl (qus J M yF) GN ?_;refine goN ?_;refine aM rfl (qus J hy S9) GN ?_;refine goN ?_;refine gL (fun m tm Y=>∃(t:Nat)(W1:X (Nat×Nat))(N2:X PN)(S:U)(C:X (Nat×B))(g:Nat),m=(bY P.gen y).length-t/\t<=(bY P.gen y).length/\RX P.gen i (bY P.gen x) ((bY P.gen y).drop t) W1 N2=some s/\tm=fr 129 [(0,.ptr kp 0 0),(7,S),(8,pt nm i),(9,pt nm j),(10,.i6 r1.1),(12,.iM (bZ nm)<|bY P.gen x),(63,.iM (bZ nm)<|bY P.gen y),(64,.i6 (bY P.gen y).length),(65,.i6 t)]/\Y=⟨C,g⟩/\PH kp v st nm { P with N:=N2 } C/\WK nm nx W1 S C/\N2.length=P.N.length/\nx<=g/\∀k,k<nx->(∀i,i<P.N.length->nm i≠k)->gt C k=gt h k)
  (fun tm Y=>∃(S:U)(C:X (Nat×B))(g:Nat),tm=fr 129 [(0,.ptr kp 0 0),(7,S),(8,pt nm i),(9,pt nm j),(10,.i6 r1.1)]/\Y=⟨C,g⟩/\PH kp v st nm { P with N:=s.2 } C/\WK nm nx s.1 S C/\s.2.length=P.N.length/\nx<=g/\∀k,k<nx->(∀i,i<P.N.length->nm i≠k)->gt C k=gt h k) (bY P.gen y).length
  ⟨0,W,N,uw,H',I,rfl,qq _,hs,rfl,rfl,J,GE,aT,jL,Ho⟩ ?_ ?_ jL
 ·rintro _ _ ⟨S,C,g,rfl,rfl,D,DG,o4,AH,AQ⟩;obtain⟨x1,Fz,y1,Fy,O⟩:=bO O
  haveI:=D.gp
  haveI:=D.gn Fz
  refine goN ?_;have G:=D.wf x1<|zX Fz;have o3:=D.put { x1 with mt:=r1.1,b8:=P.gen } Fz ⟨G.E3,G.fw,G.more,G.cp⟩;have zn:=WK.put D DG Fz<|.row (pZ nm { x1 with mt:=r1.1,b8:=P.gen }) 103;change RU _ _ _ _ _ (Sg.mk (ug C (nm i)<|.row (pZ nm { x1 with mt:=r1.1,b8:=P.gen }) 103) g) _
  haveI:=o3.gp
  haveI:=o3.gn Fy
  refine goN ?_;have nM:=o3.wf y1<|zX Fy;have Gt:=o3.put { y1 with fw:=some i,c3:=P.gen } Fy ⟨nM.E3,by show i<_;simp;rw[o4,<-aT];exact kZ,nM.more,nM.cp⟩;have hwk3:=WK.put o3 zn Fy<|.row (pZ nm { y1 with fw:=some i,c3:=P.gen }) 103;refine⟨m,_,_,zN _,⟨s.1,_,S,_,g,O,rfl,rfl,Gt,hwk3,by simp[o4],AH,fun k A L=>?_⟩,AH,Gh.sub<|by((repeat refine⟨rfl,?_⟩);exact trivial)⟩;rw[bV,hF (L j (by rw[<-aT];exact j0)),bV,hF<|L i (by rw[<-aT];exact kZ)];exact AQ k A L
 rintro _ _ _ ⟨t,W1,N2,S,C,g,rfl,ht,E,rfl,rfl,D,DG,o4,AH,AQ⟩;refine goN ?_;refine eE rfl (fun h4=>?_) (fun h4=>?_)
 ·have fL:t<(bY P.gen y).length:=by simpa using h4
  obtain⟨o,OP⟩:∃a,(bY P.gen y)[t]? = some a:=⟨_,lq fL⟩;have m6:aB (bY P.gen y) (t:Int)=some o:=by rw[aB,lr ⟨by omega,by omega⟩];simpa using OP
  have yG:(bY P.gen y).drop t=o::(bY P.gen y).drop (t+1):=by rw[Zq fL];rw[lq fL]at OP;cases OP;rfl
  rw[yG]at E;refine I6.wf fun G Y_=>?_
  haveI:ca g (g+1):=⟨rfl⟩
  haveI:ca (g+1) (g+2):=⟨rfl⟩
  refine goN ?_;apply cK;refine goN ?_;refine c8 m6 ?_;refine goN ?_;refine RS.w rfl (Lx rfl rfl) ?_;refine aM rfl (zaf YM rfl yF (fun a _=>zd9 (y:=o) (by simp[aR]) a)) MA ?_;refine goN ?_;have hH:∀k b,gt C k=some b->gt ((g,.row (bZ nm o) 107)::C) k=some b:=fun k b F=>by rw[kF (G k b F).1];exact F
  have o3:=D.more hH;have zn:=DG.S0 fun k q s A=>hH k _ A;change cond (decide (CL (fun z=>z.f==o.f) (bY P.gen x)>=0)) _ _=some s at E;refine eE rfl (fun h5=>?_) (fun h5=>?_)
  ·rw[h5]at E;obtain⟨z,hz,E⟩:=aJ E;obtain⟨hWl,E⟩:=bU E;refine goN ?_;cases DG with
   |vl K bL off xs hu Z M ho hz0 hK=>
    subst hu;have hKM:K<g:=(G K _ Z).1;have wW:gt ((g+1,.row [pt nm z.to,pt nm o.to] 200)::(g,.row (bZ nm o) 107)::C) K=some (.vec (xs.map<|cW nm).flatten 200 2 bL):=by rw[aR,hF af,aR,hF af];exact Z
    refine dE [(0,9)] ?_;refine cC ?_;refine dQ hz ?_;refine cC ?_;refine aQ (u:=.agg [pt nm z.to,pt nm o.to]) rfl (JM (qs:=[(0,pt nm z.to),(1,pt nm o.to)]) rfl ag) ?_;refine dM ?_;refine RD.act rfl (qV rfl rfl rfl rfl (Kj (cW nm) [(z.to,o.to)] mM.h mM.h tJ.h rfl (fun _=>rfl) wW M ho hz0 aZ (FU (cW nm) [(z.to,o.to)] (q:=[pt nm z.to,pt nm o.to]) (by simp[rowOf,aR]) rfl rfl rfl) ⟨by simp;omega,by simp;omega⟩)) rfl rfl ?_;refine cC ?_;refine bB ⟨by kernel_rfl,⟨jA rfl,trivial⟩,?_⟩;refine goN ?_;refine⟨(bY P.gen y).length-(t+1),_,_,by omega,⟨t+1,W1++[(z.to,o.to)],N2,.vl K (bL+1) 0 (W1++[(z.to,o.to)]).length,_,g+2,rfl,fL,E,rfl,rfl,?_,?_,o4,by omega,?_⟩,by show nx<=g+2;omega,Gh.sub ?_⟩;refine D.S0 Z fun k b F A=>?_;have:k<g:=(G k b F).1;rw[bV,hF<|WV A,aR,hF af,aR,hF af];exact F;exact .vl K (bL+1) 0 (W1++[(z.to,o.to)]) rfl (by rw[bV,lr rfl,wW];rfl) rfl (qq _) (.inl rfl) hK;intro k A L;rw[bV,hF af,aR,hF af,aR,hF af];exact AQ k A L
    ·have kW:i64.wrap ((t:Int)+1)=((t+1:Nat):Int):=by rw[oX af af];rfl
     rw[<-kW];(repeat refine⟨rfl,?_⟩);exact trivial
   |em hu hW=>
    subst hu;subst hW
    haveI:ca (g+2) (g+3):=⟨rfl⟩
    refine dE [(0,9)] ?_;refine cC ?_;refine dQ hz ?_;refine cC ?_;refine aQ (u:=.agg [pt nm z.to,pt nm o.to]) rfl (JM (qs:=[(0,pt nm z.to),(1,pt nm o.to)]) rfl ag) ?_;refine dM ?_;refine RD.act rfl (qV rfl rfl rfl rfl (z6t (cW nm) [(z.to,o.to)] mM.h mM.h tJ.h rfl (FU (cW nm) [(z.to,o.to)] (q:=[pt nm z.to,pt nm o.to]) (by simp[rowOf,aR]) rfl rfl rfl) aZ ⟨by simp,by simp⟩)) rfl rfl ?_;refine cC ?_;refine bB ⟨by kernel_rfl,⟨jA rfl,trivial⟩,?_⟩;refine goN ?_;refine⟨(bY P.gen y).length-(t+1),_,_,by omega,⟨t+1,[]++[(z.to,o.to)],N2,.vl (g+2) 0 0 ([]++[(z.to,o.to)]).length,_,g+3,rfl,fL,E,rfl,rfl,?_,?_,o4,by omega,?_⟩,by show nx<=g+3;omega,Gh.sub ?_⟩;refine D.more fun k b F=>?_;have:k<g:=(G k b F).1;show gt ((g+2,_)::(g+1,_)::(g,_)::C) k=some b;rw[aR,hF af,aR,hF af,aR,hF af];exact F;exact .vl (g+2) 0 0 [(z.to,o.to)] rfl (by simp[bE,aR]) rfl (qq _) (.inl rfl) af;intro k A L;show gt ((g+2,_)::(g+1,_)::(g,_)::C) k=_;rw[aR,hF af,aR,hF af,aR,hF af];exact AQ k A L
    ·have kW:i64.wrap ((t:Int)+1)=((t+1:Nat):Int):=by rw[oX af af];rfl
     rw[<-kW];(repeat refine⟨rfl,?_⟩);exact trivial
  ·rw[h5]at E;obtain⟨Q,AA,E⟩:=aJ E;obtain⟨wU,E⟩:=bU E
   haveI:=o3.gp
   haveI:=o3.gn AA
   refine goN ?_;refine dE [] ?_;refine cC ?_;refine dN rfl (fun s=>SY s nm Q.more Q.K2 P.gen) B8 ?_;refine cC ?_;refine bB ⟨by kernel_rfl,trivial,?_⟩;refine goN ?_;have hN:∀k,k<P.N.length->nm k<g:=fun k A=>(G _ _<|D.node k _<|lq (by show k<N2.length;omega)).1;have vA:kp<g:=(G _ _ D.b5).1;have ES:=hN i af;have nq:∀{a b:Nat},b<a->Nq a b:=fun h=>⟨by rw[beq_eq];simp;omega⟩
   haveI:Nq g kp:=nq vA
   haveI:Nq (g+1) kp:=nq af
   haveI:Nq g (nm i):=nq ES
   haveI:Nq (g+1) (nm i):=nq af
   haveI:Nq (g+1) g:=nq af
   haveI:=D.gp
   haveI:=D.gn AA
   refine dE [(0,2),(0,5),(3,2),(6,2),(6,5),(7,2),(7,5),(8,2),(8,5),(9,2),(9,5)] ?_;refine cC ?_;refine FD rfl (hJ rfl F3 rfl).2 (qq5 _ _ nm (iC P.gen Q) wU) rfl rfl ?_;refine cC ?_;refine ux rfl (uY.bp (cs:=bZ nm o) FH.h EL.h rfl rfl rfl rfl rfl rfl rfl (fun m h=>by simpa only[aW]using h)) rfl rfl ?_;refine RD.act rfl (wS (c:=bZ nm) (xs:=iC P.gen Q) (ys:=[o]) rfl rfl rfl rfl rfl rfl rfl rfl ⟨by simp;omega,by simp;omega⟩) rfl rfl ?_;refine cC ?_;refine qB ?_;refine bB ⟨by kernel_rfl,⟨L6,L6,L6,L6,L6,L6,L6,L6,L6,L6,L6,trivial⟩,?_⟩;refine goN ?_;have EY:∀k,k<P.N.length->nm k<g+1:=fun k A=>Ze<|hN k A;have gN:=D.wf Q<|zX AA;have rC:(show PP from{ P with N:=N2 }).N.length=P.N.length:=o4;rw[rC]at gN;have hgK:∀(b:B)(H:X (Nat×B)),gt ((g+1,b)::H) (g+1)=some b:=fun b H=>by simp[aR]
   have T:∀(b c d:B)(k:Nat),k<g->k≠nm i->gt (dd (g+1) b 2 ((g+1,b)::(g,c)::ug C (nm i) d)) k=gt C k:=fun b c d k A kY=>by rw[D0,hF af,aR,hF af,aR,hF af,bV,hF<|WV kY];rcases hq:gt C k with _|b';rfl;simp only[zM];rw[Mr _ _<|Mu (MD g) (G k b' hq).2]
   have gtni:∀(b c:B)(R:X U),gt (dd (g+1) b 2 ((g+1,b)::(g,c)::ug C (nm i) (.row R 103))) (nm i)=some (.row (iO (g+1) b 2 R) 103):=fun b c R=>by rw[D0,hF af,aR,hF af,aR,hF af,bV,lr rfl,D.node i Q AA];rfl
   refine⟨(bY P.gen y).length-(t+1),fr 129 [(0,.ptr kp 0 0),(7,S),(8,pt nm i),(9,pt nm j),(10,.i6 r1.1),(12,.iM (bZ nm)<|bY P.gen x),(63,.iM (bZ nm)<|bY P.gen y),(64,.i6 (bY P.gen y).length),(65,.i6 ((t+1:Nat):Int))],⟨dd (g+1) (.bv (bZ nm) (iC P.gen Q++[o]) 107 2 1) 2 _,g+1+1⟩,by omega,⟨t+1,W1,N2.set i { Q with more:=iC P.gen Q++[o],K2:=P.gen },S,_,g+1+1,rfl,fL,E,rfl,rfl,?_,?_,by simp[o4],by omega,?_⟩,by show nx<=g+1+1;omega,Gh.trans (Gh.sub ?_)<|Gh.fz (g+1) (.bv (bZ nm) (iC P.gen Q++[o]) 107 2 1) 2 (hgK _ _) nofun (vS _ _ _<|Cd ?_) rfl⟩;refine D.lH AA ⟨?_,?_,?_,?_⟩ ((gtni _ _ _).trans ?_) fun k b F A=>(T _ _ _ k (G k b F).1 A).trans F;rw[rC];exact gN.E3;rw[rC];exact gN.fw;rw[rC];intro a V;obtain V |V:=yD.1 V
   exact E! gN a V;simp at V;subst V;exact F_ a<|zX OP;rw[rC];exact gN.cp;have e1:=HL (c:=bZ nm) (sz:=2) (fun _=>rfl) (iC P.gen Q++[o]) (g+1) 2 107 1;simp only[v6,y3,FS,JJ,O0,Q5 _ _ _<|Me EY gN.fw,Q5 _ _ _<|Me EY gN.cp];rw[e1];rfl;refine DG.S0 fun k q s A=>(T _ _ _ k (G k _ A).1 fun e=>?_).trans A;rw[e,D.node i Q AA]at A;cases A;intro k A L;exact(T _ _ _ k af<|WV<|L i af).trans (AQ k A L)
   ·have kW:i64.wrap ((t:Int)+1)=((t+1:Nat):Int):=by rw[oX af af];rfl
    rw[<-kW];(repeat refine⟨rfl,?_⟩);exact trivial
   simp only[ei,aW,cO,dG];exact⟨by omega,aW.le (MD g) _<|DG.K3 G,by omega,EY j af,Nh _ fun a V=>EY _ (by rw[<-aT];exact Q9 (J.wf x<|zX M) a V),Nh _ fun a V=>EY _<|F_ a V⟩
 ·refine goN ?_;have fL:t=(bY P.gen y).length:=by
   have:¬ (t:Int)<(bY P.gen y).length:=by simpa using h4
   omega
  subst fL;rw[pw]at E;obtain rfl:=sI E;exact⟨_,_,⟨S,C,g,rfl,rfl,D,DG,o4,AH,AQ⟩,AH,Gh.sub<|by((repeat refine⟨rfl,?_⟩);exact trivial)⟩
end
def UT(N:X PN)(g:Int)(n:Nat):X eN->X Nat->V (X Nat)
 |[],out=>some out|a::l,out=>a8 (uX N g n a.to) fun q=>cond (out.contains q) (UT N g n l out) (aE (out.length<=1000000)<|UT N g n l<|out++[q])
def Z5(N:X PN)(g:Int)(n:Nat):Nat->Nat->X Nat->V (X Nat)
 |0,_,_=>none|m+1,i,out=>cond (decide (i<out.length)) (a8 out[i]? fun p=>a8 N[p]? fun x=>aE ((bY g x).length<=1000000/\out.length<=1000000)<|a8 (UT N g n (bY g x) out) fun o=>Z5 N g n m (i+1) o) (some out)
def IG(nm:Nat->Nat)(s:Nat)(out:X Nat):X (Nat×U×Nat):=(out.zipIdx s).map fun p=>(nm p.1,.bool true,p.2)
theorem zc1(nm:Nat->Nat)(s:Nat)(out:X Nat)(q:Nat):IG nm s (out++[q])=IG nm s out++[(nm q,.bool true,s+out.length)]:=by simp[IG,zipIdx_append]
theorem qvo{nm:Nat->Nat}{n:Nat}(a:∀i j,i<n->j<n->nm i=nm j->i=j){q:Nat}(b:q<n):∀(out:X Nat)(s:Nat),(∀k∈out,k<n)->y6 (nm q) (IG nm s out)=cond (out.contains q) (some<|.bool true) none
 |[],s,_=>rfl|k::out,s,h=>by
  have c:=qvo a b out (s+1) fun k g=>h k (by simp[g]);simp only[IG,E',zQ,y6]at c ⊢;rw[c,contains_cons];by_cases e:q=k;subst e;simp[beq_eq];have:nm k≠nm q:=fun f=>e<|a q k b (h k aZ) f.symm;have d:(q==k)=false:=by simpa using e
  simp[beq_eq,this,d]
theorem UE{nm:Nat->Nat}{h:X (Nat×B)}{n:Nat}(d:∀i,i<n->cA h (nm i)):∀(out:X Nat)(s:Nat),(∀k∈out,k<n)->∀e∈IG nm s out,cA h e.1:=fun out s b e a=>by
 simp only[IG,fA]at a;obtain⟨p,c,rfl⟩:=a;exact d _ (b _<|Jk c)
section
variable{kp f st:Nat}{nm:Nat->Nat}{P:PP}{h:X (Nat×B)}{nx:Nat}
theorem PH.row(p:PH kp f st nm P h):∀i,i<P.N.length->cA h (nm i):=fun i a=>⟨_,_,p.node i _<|lq a⟩
theorem tw{N:X PN}{g:Int}{n i r:Nat}(h:uX N g n i=some r):r<N.length:=by obtain⟨x,a⟩:=X' h;exact(zG.1 a).1
structure Kn(kp f st:Nat)(nm:Nat->Nat)(P:PP)(h:X (Nat×B))(nx:Nat)(out:X Nat)(Ks Ko so:Nat)(H:X (Nat×B))(M:Nat):Prop where
 mp:gt H Ks=some (.map ((IG nm 0 out).map pE) out.length)
 vc:gt H Ko=some (.bv (eD nm) out 92 1 so)
 ks:nx<=Ks
 ko:nx<=Ko
 aY:∀k,k<nx->gt H k=gt h k
 le:nx<=M
 lt:∀k∈out,k<P.N.length
theorem Kn.ph{out:X Nat}{d c g M:Nat}{H:X (Nat×B)}(r:Kn kp f st nm P h nx out d c g H M)(p:PH kp f st nm P h)(e:qA ⟨h,nx⟩):PH kp f st nm P H:=p.more fun k b a=>by rw[r.aY k (e k b a).1];exact a
theorem z8t(p:PH kp f st nm P h)(n:Nat){i:Nat}(hi:i<P.N.length){out:X Nat}(O:Z5 P.N P.gen n n 0 [i]=some out):
  b7 prog 67 [.ptr kp 0 0,pt nm i] ⟨h,nx⟩ (fun u Y'=>u=.iM (eD nm) out/\Y'=⟨h,nx⟩):=by
 refine b7.wf fun G _=>?_
 haveI:ca nx (nx+1):=⟨rfl⟩
 haveI:ca (nx+1) (nx+2):=⟨rfl⟩
 refine eO 49 vz ?_;refine goN ?_;refine RS.w rfl z3t ?_;refine goN ?_;have h1:∀(b:B),∀k c,gt h k=some c->gt ((nx,b)::h) k=some c:=fun b k c A=>by rw[kF (G k c A).1];exact A
 refine RS.lS rfl (fY.pins bQ (es:=[]) (cl:=0) (v:=.bool true) (.inr rfl) IZ.h iP.h (aV nW.h) (dY rfl) (dY rfl) (dY rfl) (by simp[bE,aR]) (UE (p.more<|h1 _).row [i] 0 (by simpa using hi) (nm i,.bool true,0) (by simp[IG])) aZ rfl) ?_;rintro _ _ ⟨rfl,rfl⟩;refine goN ?_;refine DY rfl (fY.jD (k:=1) (cs:=(List.map (eD nm) [i]).flatten) (qs:=[(0,pt nm i)]) bQ rfl iQ.h jI.h (bj rfl) rfl rfl rfl rfl rfl rfl rfl) ?_;rintro _ _ ⟨rfl,rfl⟩;refine goN ?_;have X9:∀(b c d:B)(k:Nat),k<nx->gt ((nx+1,b)::ug ((nx,c)::h) nx d) k=gt h k:=fun b c d k y=>by rw[aR,hF af,bV,hF af,aR,hF af]
 refine gL (fun m F Y=>∃(t:Nat)(o:X Nat)(s:Nat)(H:X (Nat×B))(M:Nat),Z5 P.N P.gen n m t o=some out/\F=fr 49 [(0,.ptr kp 0 0),(5,.map nx),(6,.vl (nx+1) s 0 o.length),(7,.i6 t)]/\t<=o.length/\Y=⟨H,M⟩/\Kn kp f st nm P h nx o nx (nx+1) s H M)
  (fun F Y=>∃(s:Nat)(H:X (Nat×B))(M:Nat),F=fr 49 [(6,.vl (nx+1) s 0 out.length)]/\Y=⟨H,M⟩/\Kn kp f st nm P h nx out nx (nx+1) s H M) n
  ⟨0,[i],0,_,nx+2,O,rfl,qq _,rfl,⟨by show gt ((nx+1,_)::ug ((nx,_)::h) nx _) nx=_;rw[aR,hF af,bV,lr rfl];simp[aR,IG],by simp[bE,aR,B.bv],zF _,MD _,fun k y=>X9 _ _ _ k y,by omega,by simpa using hi⟩⟩ ?_ ?_ (by show nx<=nx+2;omega)
 rintro _ _ ⟨s,H,M,rfl,rfl,hr⟩;refine goN ?_;refine⟨.inr rfl,_,dP rfl dU,.iM (eD nm) out,⟨h,nx⟩,zF _,Rm (c:=eD nm) (xs:=out) (e:=92) (sz:=1) (K:=nx+1) (st:=s) G (MD _) hr.vc hr.aY hr.le (tm':=[.iM (eD nm) out]) ?_ ?_<|zF _,rfl,rfl⟩;exact congrArg (fun u=>[u])<|HL (c:=eD nm) (sz:=1) (fun _=>rfl) out (nx+1) 1 92 s;simp only[aH,aW,cO];rw[Ni];intro c A;obtain⟨a,R,rfl⟩:=mem_map.1 A;simp only[eD,pt,aH,aW,cO];exact p.lt G<|hr.lt a R;rintro(_ |m) _ _ ⟨t,o,s,H,M,O,rfl,ht,rfl,hr⟩;cases O;have hp:=hr.ph p G;refine goN ?_;refine RS.w rfl (HP rfl rfl rfl (z2z iQ.h hr.vc)) ?_;refine goN ?_;refine eE rfl (fun h2=>?_) (fun h2=>?_)
 ·have lJ:t<o.length:=by simpa using h2
  change cond (decide (t<o.length)) _ _=some out at O;rw[Zh lJ]at O;obtain⟨q,hq,x,hx,O⟩:=bO O;obtain⟨⟨hl,DN⟩,O⟩:=bU O;obtain⟨V,wq,O⟩:=aJ O;have m6:aB o (t:Int)=some q:=by rw[aB,lr ⟨by omega,by omega⟩];simpa using hq
  have hv:pR ⟨H,M⟩ (nx+1) s=some ((o.map<|eD nm).flatten,92,1):=by simp[pR,hr.vc,B.bv]
  refine goN ?_;apply cK;refine goN ?_;refine RS.w rfl (cV rfl rfl (gP (eD nm) iQ.h (aV jI.h) bF (fun _=>rfl) hv m6)) ?_;refine RS.w rfl (o8 (eD nm) (pt nm) iP.h rfl (fun _=>rfl) rfl hr.vc m6) (aM rfl (qus hp hx hl) GN ?_);refine goN ?_;refine gL (fun m F Y=>∃(j:Nat)(r:X Nat)(s:Nat)(H:X (Nat×B))(M:Nat),m=(bY P.gen x).length-j/\j<=(bY P.gen x).length/\UT P.N P.gen n ((bY P.gen x).drop j) r=some V/\t<r.length/\F=fr 49 [(0,.ptr kp 0 0),(5,.map nx),(6,.vl (nx+1) s 0 r.length),(7,.i6 t),(27,.iM (bZ nm)<|bY P.gen x),(28,.i6 (bY P.gen x).length),(29,.i6 j)]/\Y=⟨H,M⟩/\Kn kp f st nm P h nx r nx (nx+1) s H M)
   (fun F Y=>∃(s:Nat)(H:X (Nat×B))(M:Nat),F=fr 49 [(0,.ptr kp 0 0),(5,.map nx),(6,.vl (nx+1) s 0 V.length),(7,.i6 t)]/\t<V.length/\Y=⟨H,M⟩/\Kn kp f st nm P h nx V nx (nx+1) s H M) (bY P.gen x).length
   ⟨0,o,s,H,M,rfl,qq _,wq,lJ,rfl,rfl,hr⟩ ?_ ?_ hr.le
  ·rintro _ _ ⟨so2,H2,M2,rfl,T,rfl,S⟩;refine goN ?_;have Z:i64.wrap ((t:Int)+1)=((t+1:Nat):Int):=by rw[oX af af];rfl
   refine⟨m,_,_,zN _,⟨t+1,V,so2,H2,M2,O,rfl,T,rfl,S⟩,S.le,Gh.sub ?_⟩;rw[<-Z];(repeat refine⟨rfl,?_⟩);exact trivial
  rintro _ _ _ ⟨j,r,L,D,l,rfl,hj,z,zx,rfl,rfl,g⟩;have nO:=g.ph p G;refine I6.wf fun gH _=>?_
  haveI:ca l (l+1):=⟨rfl⟩
  haveI:ca (l+1) (l+2):=⟨rfl⟩
  refine goN ?_;refine eE rfl (fun h4=>?_) (fun h4=>?_)
  ·have E:j<(bY P.gen x).length:=by simpa using h4
   obtain⟨a,R⟩:∃a,(bY P.gen x)[j]? = some a:=⟨_,lq E⟩;have m6:aB (bY P.gen x) (j:Int)=some a:=by rw[aB,lr ⟨by omega,by omega⟩];simpa using R
   have yG:(bY P.gen x).drop j=a::(bY P.gen x).drop (j+1):=by rw[Zq E];rw[lq E]at R;cases R;rfl
   have Z:i64.wrap ((j:Int)+1)=((j+1:Nat):Int):=by rw[oX af af];rfl
   rw[yG]at z;obtain⟨q1,I4,z⟩:=aJ z;have J:=tw I4;have hH:∀(b:B),∀k c,gt D k=some c->gt ((l,b)::D) k=some c:=fun b k c A=>by rw[kF (gH k c A).1];exact A
   have C:Kn kp f st nm P h nx r nx (nx+1) L ((l,.row (bZ nm a) 107)::D) (l+1):=⟨hH _ _ _ g.mp,hH _ _ _ g.vc,g.ks,g.ko,fun k y=>by rw[kF<|YR y g.le];exact g.aY k y,Zu g.le,g.lt⟩;have I:=C.ph p G;refine goN ?_;apply cK;refine goN ?_;refine c8 m6 ?_;refine goN ?_;refine aM rfl (Ut I n I4) B6 ?_;refine goN ?_;refine DY rfl (fY.lO bQ (zu:=.bool false) rfl IZ.h iP.h (aV nW.h) if4.h rfl (dY rfl) (dY rfl) C.mp (I.row q1 J) (UE I.row r 0 g.lt)) ?_;rintro _ _ ⟨rfl,rfl⟩;rw[qvo p.inj J r 0 g.lt];cases A:r.contains q1 with
   |true=>rw[A]at z;refine goN ?_;refine eE rfl (fun Q=>by cases Q) (fun Q=>?_);refine goN ?_;refine⟨(bY P.gen x).length-(j+1),_,_,by omega,⟨j+1,r,L,_,l+1,rfl,E,z,zx,rfl,rfl,C⟩,C.le,Gh.sub ?_⟩;rw[<-Z];(repeat refine⟨rfl,?_⟩);exact trivial|false=>
    rw[A]at z;obtain⟨hol1,z⟩:=bU z;refine goN ?_;refine eE rfl (fun Q=>?_) (fun Q=>by cases Q);refine goN ?_;have Qr:nx+1<l:=(gH _ _ g.vc).1;refine RS.lS rfl (fY.pins bQ (v:=.bool true) (.inl rfl) IZ.h iP.h (aV nW.h) (dY rfl) (dY rfl) (dY rfl) C.mp (I.row q1 J) (UE I.row r 0 g.lt) (by rw[qvo p.inj J r 0 g.lt,A];rfl)) ?_;rintro _ _ ⟨rfl,rfl⟩;change RU _ _ _ _ _ (Sg.mk (ug ((l,.row (bZ nm a) 107)::D) nx<|.map ((IG nm 0 r++[(nm q1,U.bool true,r.length)]).map pE)<|r.length+1)<|l+1) _;refine goN ?_;refine bP ?_;have xy:gt ((l+1,.row [pt nm q1] 92)::ug ((l,.row (bZ nm a) 107)::D) nx (.map ((IG nm 0 r++[(nm q1,U.bool true,r.length)]).map pE)<|r.length+1)) (nx+1)=some (.vec (r.map<|eD nm).flatten 92 1 L):=by rw[aR,hF af,bV,hF af];exact C.vc
    refine RS.w rfl (qV rfl rfl rfl rfl (ED (eD nm) [q1] iQ.h iQ.h jI.h rfl (fun _=>rfl) xy (FU (eD nm) [q1] (q:=[pt nm q1]) (by simp[rowOf,aR]) rfl rfl rfl) ⟨by simp;omega,by simp;omega⟩)) ?_;refine goN ?_;refine⟨(bY P.gen x).length-(j+1),_,_,by omega,⟨j+1,r++[q1],L+1,_,l+2,rfl,E,z,by simp;omega,rfl,rfl,⟨?_,?_,zF _,MD _,fun k y=>?_,by omega,?_⟩⟩,by show nx<=l+2;omega,Gh.sub ?_⟩;rw[bV,hF af];show gt ((l+1,_)::ug ((l,_)::D) nx _) nx=_;rw[aR,hF af,bV,lr rfl,C.mp,zc1];simp;rw[bV,lr rfl,xy];rfl;rw[bV,hF af];show gt ((l+1,_)::ug ((l,_)::D) nx _) k=_;rw[aR,hF af,bV,hF af];exact C.aY k y;intro k y;obtain y |y:=yD.1 y;exact g.lt k y;simp at y;subst y;exact J
    ·rw[<-Z];(repeat refine⟨rfl,?_⟩);exact trivial
  ·refine goN ?_;have E:j=(bY P.gen x).length:=by
    have:¬ (j:Int)<(bY P.gen x).length:=by simpa using h4
    omega
   subst E;rw[pw]at z;obtain rfl:=sI z;exact⟨_,_,⟨L,D,l,rfl,zx,rfl,g⟩,g.le,Gh.sub<|by((repeat refine⟨rfl,?_⟩);exact trivial)⟩
 ·refine goN ?_;have lJ:t=o.length:=by have:¬ (t:Int)<o.length:=(by simpa using h2);omega
  change cond (decide (t<o.length)) _ _=some out at O;rw[Zb af]at O;obtain rfl:=sI O;exact⟨_,_,⟨s,H,M,rfl,rfl,hr⟩,hr.le,Gh.sub<|by((repeat refine⟨rfl,?_⟩);exact trivial)⟩
end
section
variable{kp c st:Nat}{nm:Nat->Nat}{P:PP}{h:X (Nat×B)}{nx:Nat}
theorem PH.beq(p:PH kp c st nm P h){i j:Nat}(a:i<P.N.length)(b:j<P.N.length):Nat.beq (nm i) (nm j)=Nat.beq i j:=by rw[beq_eq,beq_eq];by_cases e:i=j;simp[e];have:nm i≠nm j:=fun h=>e<|p.inj i j a b h;simp[e,this]
theorem z87(p:PH kp c st nm P h){j:Nat}(d:gt h j=some (.row [.ptr kp 0 0] 31))(n:Nat){a:eN}{r:Nat}(t:uX P.N P.gen n a.to=some r)(l:a.to<P.N.length):
  b7 prog 107 (.agg (bZ nm a)::[.ptr j 0 0]) ⟨h,nx⟩ (fun u q=>u=.bool (!Nat.beq r a.to)/\q=⟨h,nx⟩):=by
 refine b7.wf fun i _=>?_;have o:=tw t
 haveI:ca nx (nx+1):=⟨rfl⟩
 have e:PH kp c st nm P ((nx,.row (bZ nm a) 107)::h):=p.more fun k b m=>by rw[kF (i k b m).1];exact m
 haveI:eK ((nx,.row (bZ nm a) 107)::h) j (.row [.ptr kp 0 0] 31):=⟨by rw[kF (i _ _ d).1];exact d⟩
 have g:=e.node r _<|lq o;have f:=e.node a.to _<|lq l;refine eO 11 YK ?_;refine goN ?_;refine I6.any bQ (lF:=[(3,.bool<|if BinOp.neq=BinOp.eql then Nat.beq (nm r) (nm a.to)else !Nat.beq (nm r) (nm a.to))]) (YF:=⟨(nx,.row (bZ nm a) 107)::h,nx+1⟩) (fun s=>?_) ?_
 ·repeat' first
   |exact trivial
   |refine⟨rfl,?_⟩
   |refine And.intro ?_ ?_
   |(show ul _ _ _ _ _ _ _ _ _;refine Exists.intro _ ⟨rfl,rfl,rfl,.inl ⟨_,_,L6,_,_,Gh.refl _ _ _,MD _,?_⟩⟩)
   |(show ul _ _ _ _ _ _ _ _ _;refine Exists.intro _ ⟨rfl,rfl,rfl,.inr<|.inl ⟨_,_,_,qW rfl rfl B6 rfl rfl rfl,Ut e n t,?_⟩⟩;rintro _ _ ⟨rfl,rfl⟩;refine⟨_,_,Gh.refl _ _ _,MD _,?_⟩)
   |(show ul _ _ _ _ _ _ _ _ _;refine Exists.intro _ ⟨rfl,rfl,rfl,.inr<|.inr ⟨_,fY.peq bQ rfl (.inr rfl) iP.h (aV nW.h) (dY rfl) (dY rfl) g f,?_⟩⟩;rintro _ _ ⟨rfl,rfl⟩;refine⟨_,_,Gh.refl _ _ _,MD _,?_⟩)
  all_goals exact⟨_,⟨(nx,.row (bZ nm a) 107)::h,nx+1⟩,Gh.sub (l':=[(3,.bool<|if BinOp.neq=BinOp.eql then Nat.beq (nm r) (nm a.to)else !Nat.beq (nm r) (nm a.to))]) ⟨rfl,trivial⟩,MD _,s⟩
 refine goN ?_;exact D? i rfl rfl rfl (fun k d=>kF d) (MD _) (by simp[aW]) ⟨by rw[hF bF,e.beq o l],rfl⟩
theorem z8h{a:Type}(q:a->FK)(l:X a):decide (CL q l>=0)=l.any q:=by
 unfold CL;cases b:l.findIdx? q with
 |none=>
  rw[R_]at b;have:l.any q=false:=by rw[any_eq_false];intro x f;simp[b x f]
  rw[this];rfl
 |some i=>rw[qci]at b;obtain⟨e,d,_⟩:=b;have:l.any q=true:=any_eq_true.2 ⟨l[i],jh e,d⟩;rw[this];simp
theorem zbw{Y:Sg}{nm:Nat->Nat}{l:X eN}{g:FuncId}{fn:Func}{cap:X U}{q:eN->FK}(d:tb.fn g=some fn)(e:fn.body.isSome=true)(i:l.length<=1000000)(f:∀a∈l,b7 prog g (.agg (bZ nm a)::cap) Y fun u b=>u=.bool (q a)/\b=Y):
  b7 prog 106 [.iM (bZ nm) l,.fn (.func g) [] cap] Y (fun u b=>u=.bool (l.any q)/\b=Y):=by refine eO 9 YL ?_;refine goN ?_;refine aM rfl (zaf d e i f) MA ?_;refine goN ?_;exact EB rfl rfl rfl (zF _) ⟨by rw[z8h],rfl⟩
end
def C0(g:Int)(x:PN):FK:=cond (x.c4 != g) false x.ch
def P6(N:X PN)(g:Int)(n:Nat)(a:eN):FK:=match uX N g n a.to with
 |some r=>!Nat.beq r a.to|none=>false
def Lg(N:X PN)(g:Int)(n:Nat)(l:X eN):FK:=l.all fun a=>(uX N g n a.to).isSome
def Eh(g:Int)(n:Nat):X Nat->X PN->V (X PN)
 |[],N=>some N|p::l,N=>a8 N[p]? fun x=>cond (Lg N g n x.E3) (aE (x.E3.length<=1000000)<|Eh g n l<|N.set p { x with ch:=iF g x != x.kind||(decide (((iC g x).length:Int)>0)||x.E3.any (P6 N g n)),c4:=g }) none
def JX(g:Int)(N:X PN):X eN->V FK
 |[]=>some false|a::l=>a8 N[a.to]? fun y=>cond (C0 g y) (some true) (JX g N l)
def MX(g:Int):X Nat->FK->X PN->V (FK×X PN)
 |[],a,N=>some (a,N)|p::l,a,N=>a8 N[p]? fun x=>cond (C0 g x) (MX g l a N) (aE (x.E3.length<=1000000)<|a8 (JX g N x.E3) fun c=>cond c (MX g l true<|N.set p { x with ch:=true,c4:=g })<|MX g l a N)
def Eg(g:Int)(l:X Nat):Nat->X PN->V (X PN)
 |0,_=>none|m+1,N=>a8 (MX g l false N) fun r=>cond r.1 (Eg g l m r.2) (some r.2)
def Rn(g:Int)(n:Nat)(l:X Nat)(N:X PN):V (X PN):=aE (l.length<=1000000) (a8 (Eh g n l N) fun a=>Eg g l n a)
section
variable{kp d st:Nat}{nm:Nat->Nat}{P:PP}{h:X (Nat×B)}{nx:Nat}
structure w6(kp d st:Nat)(nm:Nat->Nat)(P:PP)(h:X (Nat×B))(nx:Nat)(N:X PN)(H:X (Nat×B))(M:Nat):Prop where
 ph:PH kp d st nm { P with N:=N } H
 bx:gt H nx=some (.row [.ptr kp 0 0] 31)
 fr:∀k,k<nx->(∀i,i<P.N.length->nm i≠k)->gt H k=gt h k
 le:nx<M
 len:N.length=P.N.length
theorem w6.put{N:X PN}{H:X (Nat×B)}{M:Nat}(m:w6 kp d st nm P h nx N H M){i:Nat}{x:PN}(y:PN)(a:N[i]? = some x)(g:lQ P.N.length y):w6 kp d st nm P h nx (N.set i y) (ug H (nm i)<|.row (pZ nm y) 103) M:=by have c:i<N.length:=(zG.1 a).1;refine⟨m.ph.put y a (by show lQ N.length y;rw[m.len];exact g),?_,fun k f b=>?_,m.le,by simp[m.len]⟩;rw[bV,hF fun e=>?_];exact m.bx;have:=m.bx;rw[<-e,m.ph.node i x a]at this;simp at this;rw[bV,hF<|b i (by rw[<-m.len];exact c)];exact m.fr k f b
theorem w6.wf{N:X PN}{H:X (Nat×B)}{M:Nat}(m:w6 kp d st nm P h nx N H M){i:Nat}{x:PN}(a:N[i]? = some x):lQ P.N.length x:=by have:=m.ph.wf x<|zX a;rw[show({ P with N:=N }:PP).N.length=P.N.length from m.len]at this;exact this
theorem w6.more{N:X PN}{H:X (Nat×B)}{M:Nat}(m:w6 kp d st nm P h nx N H M)(g:qA ⟨H,M⟩)(b:B):w6 kp d st nm P h nx N ((M,b)::H) (M+1):=
 ⟨m.ph.more fun k c a=>by rw[kF (g k c a).1];exact a,by rw[kF m.le];exact m.bx,fun k e f=>by rw[kF<|qcV e m.le];exact m.fr k e f,Ze m.le,m.len⟩
theorem w6.gb{N:X PN}{H:X (Nat×B)}{M:Nat}(m:w6 kp d st nm P h nx N H M):eK H nx (.row [.ptr kp 0 0] 31):=⟨m.bx⟩
theorem zcf(p:PH kp d st nm P h)(n:Nat){l:X Nat}(hl:∀i∈l,i<P.N.length){G:X PN}(O:Rn P.gen n l P.N=some G):
  b7 prog 68 [.ptr kp 0 0,.iM (eD nm) l] ⟨h,nx⟩ (fun u Y'=>∃H M,u=.a7 []/\Y'=⟨H,M⟩/\PH kp d st nm { P with N:=G } H/\G.length=P.N.length/\nx<=M/\∀k,k<nx->(∀i,i<P.N.length->nm i≠k)->gt H k=gt h k):=by
 refine b7.wf fun v7 _=>?_;obtain⟨tQ,O⟩:=bU O;obtain⟨T,h1,h2⟩:=aJ O
 haveI:ca nx (nx+1):=⟨rfl⟩
 refine eO 120 vt ?_;refine goN ?_;have xa:w6 kp d st nm P h nx P.N ((nx,.row [.ptr kp 0 0] 31)::h) (nx+1):=⟨p.more fun k b V=>by rw[kF (v7 k b V).1];exact V,by simp[aR],fun k hk _=>kF hk,zN _,rfl⟩;refine gL (fun m g Y=>∃(t:Nat)(N:X PN)(H:X (Nat×B))(M:Nat),m=l.length-t/\t<=l.length/\Eh P.gen n (l.drop t) N=some T/\g=fr 120 [(1,.iM (eD nm) l),(2,.ptr nx 0 0),(18,.iM (eD nm) l),(19,.i6 l.length),(20,.i6 t)]/\Y=⟨H,M⟩/\w6 kp d st nm P h nx N H M)
  (fun g Y=>∃(H:X (Nat×B))(M:Nat),g=fr 120 [(1,.iM (eD nm) l),(2,.ptr nx 0 0)]/\Y=⟨H,M⟩/\w6 kp d st nm P h nx T H M) l.length
  ⟨0,P.N,_,nx+1,rfl,qq _,h1,rfl,rfl,xa⟩ ?_ ?_ (MD _)
 ·rintro _ _ ⟨H,M,rfl,rfl,hm⟩;refine goN ?_;refine gL (fun m g Y=>∃(v:FK)(N:X PN)(H:X (Nat×B))(M:Nat),cond v (Eg P.gen l m N) (some N)=some G/\g=fr 120 [(1,.iM (eD nm) l),(2,.ptr nx 0 0),(9,.bool v)]/\Y=⟨H,M⟩/\w6 kp d st nm P h nx N H M)
   (fun g Y=>∃(H:X (Nat×B))(M:Nat),g=fr 120 []/\Y=⟨H,M⟩/\w6 kp d st nm P h nx G H M) n
   ⟨true,T,H,M,h2,rfl,rfl,hm⟩ ?_ ?_ (ep hm.le)
  rintro _ _ ⟨H,M,rfl,rfl,hm⟩;exact⟨.inl rfl,[],rfl,.a7 [],_,ep hm.le,Gh.refl _ _ _,H,M,rfl,rfl,hm.ph,hm.len,ep hm.le,hm.fr⟩;rintro m _ _ ⟨v,N,H,M,L,rfl,rfl,hm⟩;refine goN ?_;refine eE rfl (fun h3=>?_) (fun h3=>?_)
  ·subst h3;cases m with
   |zero=>cases L|succ m=>
   obtain⟨r,hr,L⟩:=aJ (show a8 (MX P.gen l false N) (fun r=>cond r.1 (Eg P.gen l m r.2)<|some r.2)=some G from L);refine goN ?_;apply cK;refine goN ?_;refine gL (fun m g Y=>∃(t:Nat)(v:FK)(N:X PN)(H:X (Nat×B))(M:Nat),m=l.length-t/\t<=l.length/\MX P.gen (l.drop t) v N=some r/\g=fr 120 [(1,.iM (eD nm) l),(2,.ptr nx 0 0),(9,.bool v),(68,.iM (eD nm) l),(69,.i6 l.length),(70,.i6 t)]/\Y=⟨H,M⟩/\w6 kp d st nm P h nx N H M)
    (fun g Y=>∃(H:X (Nat×B))(M:Nat),g=fr 120 [(1,.iM (eD nm) l),(2,.ptr nx 0 0),(9,.bool r.1)]/\Y=⟨H,M⟩/\w6 kp d st nm P h nx r.2 H M) l.length
    ⟨0,false,N,H,M,rfl,qq _,hr,rfl,rfl,hm⟩ ?_ ?_ (ep hm.le)
   ·rintro _ _ ⟨H,M,rfl,rfl,hm⟩;refine goN ?_;exact⟨m,_,_,zN _,⟨r.1,r.2,H,M,L,rfl,rfl,hm⟩,ep hm.le,Gh.sub<|by((repeat refine⟨rfl,?_⟩);exact trivial)⟩
   rintro _ _ _ ⟨t,v,N,H,M,rfl,ht,e,rfl,rfl,hm⟩;refine goN ?_;refine eE rfl (fun D=>?_) (fun D=>?_)
   ·have f:t<l.length:=by simpa using D
    obtain⟨q,F⟩:∃a,l[t]? = some a:=⟨_,lq f⟩;have m6:aB l (t:Int)=some q:=by rw[aB,lr ⟨by omega,by omega⟩];simpa using F
    have yG:l.drop t=q::l.drop (t+1):=by rw[Zq f];rw[lq f]at F;cases F;rfl
    have K:i64.wrap ((t:Int)+1)=((t+1:Nat):Int):=by rw[oX af af];rfl
    rw[yG]at e;obtain⟨x,z,e⟩:=aJ e;have A:=hm.wf z
    haveI:=hm.ph.gp
    haveI:=hm.ph.gn z
    haveI:=hm.gb
    refine goN ?_;apply cK;refine goN ?_;refine c8 m6 ?_;refine goN ?_;refine dE [] ?_;refine cC ?_;refine dN rfl (fun s=>Ik s x.ch x.c4 P.gen) T3 ?_;refine cC ?_;refine bB ⟨by kernel_rfl,trivial,?_⟩;refine goN ?_;refine eE rfl (fun h5=>?_) (fun h5=>?_)
    ·rw[show C0 P.gen x=true from h5]at e;refine goN ?_;refine⟨l.length-(t+1),_,_,by omega,⟨t+1,v,N,H,M,rfl,f,e,rfl,rfl,hm⟩,ep hm.le,Gh.sub ?_⟩;rw[<-K];(repeat refine⟨rfl,?_⟩);exact trivial
    rw[show C0 P.gen x=false from h5]at e;obtain⟨mX,e⟩:=bU e;obtain⟨c,o,e⟩:=aJ e;have S:MX P.gen (l.drop<|t+1) (cond c true v) (cond c (N.set q { x with ch:=true,c4:=P.gen }) N)=some r:=by cases c<;>exact e
    refine goN ?_;refine gL (fun m g Y=>∃(j:Nat)(H:X (Nat×B))(M:Nat),m=x.E3.length-j/\j<=x.E3.length/\JX P.gen N (x.E3.drop j)=some c/\g=fr 120 [(1,.iM (eD nm) l),(2,.ptr nx 0 0),(9,.bool v),(11,pt nm q),(68,.iM (eD nm) l),(69,.i6 l.length),(70,.i6 t),(90,.iM (bZ nm) x.E3),(91,.i6 x.E3.length),(92,.i6 j)]/\Y=⟨H,M⟩/\w6 kp d st nm P h nx N H M)
     (fun g Y=>∃(H:X (Nat×B))(M:Nat),g=fr 120 [(1,.iM (eD nm) l),(2,.ptr nx 0 0),(9,.bool<|cond c true v),(68,.iM (eD nm) l),(69,.i6 l.length),(70,.i6 t)]/\Y=⟨H,M⟩/\w6 kp d st nm P h nx (cond c (N.set q { x with ch:=true,c4:=P.gen }) N) H M) x.E3.length
     ⟨0,H,M,rfl,qq _,o,rfl,rfl,hm⟩ ?_ ?_ (ep hm.le)
    ·rintro _ _ ⟨H,M,rfl,rfl,hm⟩;refine goN ?_;refine⟨l.length-(t+1),_,_,by omega,⟨t+1,_,_,H,M,rfl,f,S,rfl,rfl,hm⟩,ep hm.le,Gh.sub ?_⟩;rw[<-K];(repeat refine⟨rfl,?_⟩);exact trivial
    rintro _ _ _ ⟨j,H,M,rfl,hj,o,rfl,rfl,hm⟩;refine I6.wf fun gH _=>?_
    haveI:ca M (M+1):=⟨rfl⟩
    refine goN ?_;refine eE rfl (fun Q=>?_) (fun Q=>?_)
    ·have J:j<x.E3.length:=by simpa using Q
     obtain⟨a,I⟩:∃a,x.E3[j]? = some a:=⟨_,lq J⟩;have DP:aB x.E3 (j:Int)=some a:=by rw[aB,lr ⟨by omega,by omega⟩];simpa using I
     have LH:x.E3.drop j=a::x.E3.drop (j+1):=by rw[Zq J];rw[lq J]at I;cases I;rfl
     have DF:i64.wrap ((j:Int)+1)=((j+1:Nat):Int):=by rw[oX af af];rfl
     rw[LH]at o;obtain⟨y,hy,o⟩:=aJ o;have C:=hm.more gH (.row (bZ nm a) 107)
     haveI:=C.ph.gp
     haveI:=C.ph.gn z
     haveI:=C.ph.gn hy
     haveI:=C.gb
     refine goN ?_;apply cK;refine goN ?_;refine c8 DP ?_;refine goN ?_;refine dE [] ?_;refine cC ?_;refine dN rfl (fun s=>Ik s y.ch y.c4 P.gen) T3 ?_;refine cC ?_;refine bB ⟨by kernel_rfl,trivial,?_⟩;refine goN ?_;refine eE rfl (fun R=>?_) (fun R=>?_)
     ·rw[show C0 P.gen y=true from R]at o;obtain rfl:=sI o;refine goN ?_;exact⟨_,_,⟨_,M+1,rfl,rfl,C.put { x with ch:=true,c4:=P.gen } z ⟨A.E3,A.fw,A.more,A.cp⟩⟩,ep C.le,Gh.sub<|by((repeat refine⟨rfl,?_⟩);exact trivial)⟩
     ·rw[show C0 P.gen y=false from R]at o;refine goN ?_;refine⟨x.E3.length-(j+1),_,_,by omega,⟨j+1,_,M+1,rfl,J,o,rfl,rfl,C⟩,ep C.le,Gh.sub ?_⟩;rw[<-DF];(repeat refine⟨rfl,?_⟩);exact trivial
    ·refine goN ?_;have J:j=x.E3.length:=by
      have:¬ (j:Int)<x.E3.length:=by simpa using Q
      omega
     subst J;rw[pw]at o;obtain rfl:=sI o;exact⟨_,_,⟨H,M,rfl,rfl,hm⟩,ep hm.le,Gh.sub<|by((repeat refine⟨rfl,?_⟩);exact trivial)⟩
   ·refine goN ?_;have f:t=l.length:=by
     have:¬ (t:Int)<l.length:=by simpa using D
     omega
    subst f;rw[pw]at e;obtain rfl:=sI e;exact⟨_,_,⟨H,M,rfl,rfl,hm⟩,ep hm.le,Gh.sub<|by((repeat refine⟨rfl,?_⟩);exact trivial)⟩
  subst h3;obtain rfl:=sI L;refine goN ?_;exact⟨_,_,⟨H,M,rfl,rfl,hm⟩,ep hm.le,Gh.sub trivial⟩
 ·rintro _ _ _ ⟨t,N,H,M,rfl,ht,e,rfl,rfl,hm⟩;refine goN ?_;refine eE rfl (fun D=>?_) (fun D=>?_)
  ·have f:t<l.length:=by simpa using D
   obtain⟨q,F⟩:∃a,l[t]? = some a:=⟨_,lq f⟩;have m6:aB l (t:Int)=some q:=by rw[aB,lr ⟨by omega,by omega⟩];simpa using F
   have yG:l.drop t=q::l.drop (t+1):=by rw[Zq f];rw[lq f]at F;cases F;rfl
   have K:i64.wrap ((t:Int)+1)=((t+1:Nat):Int):=by rw[oX af af];rfl
   rw[yG]at e;obtain⟨x,z,e⟩:=aJ e;obtain⟨c5,e⟩:Lg N P.gen n x.E3=true/\_:=by rcases o:Lg N P.gen n x.E3 with _|_;rw[o]at e;cases e;rw[o]at e;exact⟨rfl,e⟩
   obtain⟨mX,e⟩:=bU e;have A:=hm.wf z
   haveI:=hm.ph.gp
   haveI:=hm.ph.gn z
   haveI:=hm.gb
   refine goN ?_;apply cK;refine goN ?_;refine c8 m6 ?_;refine goN ?_;refine dE [] ?_;refine cC ?_;refine dN rfl (fun s=>SY s nm x.more x.K2 P.gen) B8 ?_;refine cC ?_;refine bB ⟨by kernel_rfl,trivial,?_⟩;refine goN ?_;refine RS.w rfl (Lx rfl rfl) ?_;refine aM rfl (zbw (q:=P6 N P.gen n) YK rfl mX (fun a I=>?_)) YL ?_;have Q:=all_eq_true.1 c5 a I;obtain⟨r,hr⟩:=Option.isSome_iff_exists.1 Q;have R:=z87 (nx:=M) hm.ph hm.bx n hr (by show a.to<N.length;rw[hm.len];exact A.E3 a I);have h8:P6 N P.gen n a= !Nat.beq r a.to:=by simp only[P6,hr]
   rw[h8];exact R;refine goN ?_;have E:∀{b:FK},(iF P.gen x != x.kind||(decide (((iC P.gen x).length:Int)>0)||x.E3.any (P6 N P.gen n)))=b->w6 kp d st nm P h nx (N.set q { x with ch:=b,c4:=P.gen }) (ug H (nm q)<|.row (pZ nm { x with ch:=b,c4:=P.gen }) 103) M/\Eh P.gen n (l.drop<|t+1) (N.set q { x with ch:=b,c4:=P.gen })=some T:=fun{b} V=>⟨hm.put _ z ⟨A.E3,A.fw,A.more,A.cp⟩,by rw[<-V];exact e⟩;cases Z:iF P.gen x != x.kind with
   |true=>obtain⟨g1,g2⟩:=E (b:=true) (by rw[Z];rfl);refine dE [] ?_;refine cC ?_;refine RD.call rfl (hJ rfl B5 rfl).2 (Us hm.ph z) rfl rfl ?_;refine cC ?_;refine qB ?_;refine bB ⟨by kernel_rfl,trivial,?_⟩;refine goN ?_;refine⟨l.length-(t+1),_,_,by omega,⟨t+1,_,_,M,rfl,f,g2,rfl,rfl,g1⟩,ep hm.le,Gh.sub ?_⟩;rw[<-K];(repeat refine⟨rfl,?_⟩);exact trivial
   |false=>
    cases wZ:decide (((cond (x.K2 != P.gen) [] x.more).length:Int)>0)with
    |true=>obtain⟨g1,g2⟩:=E (b:=true) (by rw[Z,show decide (((iC P.gen x).length:Int)>0)=true from wZ];rfl);refine dE [] ?_;refine cC ?_;refine RD.call rfl (hJ rfl B5 rfl).2 (Us hm.ph z) rfl rfl ?_;refine cC ?_;refine qB ?_;refine bB ⟨by kernel_rfl,trivial,?_⟩;refine goN ?_;refine⟨l.length-(t+1),_,_,by omega,⟨t+1,_,_,M,rfl,f,g2,rfl,rfl,g1⟩,ep hm.le,Gh.sub ?_⟩;rw[<-K];(repeat refine⟨rfl,?_⟩);exact trivial
    |false=>obtain⟨g1,g2⟩:=E (b:=x.E3.any<|P6 N P.gen n) (by rw[Z,show decide (((iC P.gen x).length:Int)>0)=false from wZ];rfl);refine dE [] ?_;refine cC ?_;refine RD.call rfl (hJ rfl B5 rfl).2 (Us hm.ph z) rfl rfl ?_;refine cC ?_;refine qB ?_;refine bB ⟨by kernel_rfl,trivial,?_⟩;refine goN ?_;refine⟨l.length-(t+1),_,_,by omega,⟨t+1,_,_,M,rfl,f,g2,rfl,rfl,g1⟩,ep hm.le,Gh.sub ?_⟩;rw[<-K];(repeat refine⟨rfl,?_⟩);exact trivial
  ·refine goN ?_;have f:t=l.length:=by
    have:¬ (t:Int)<l.length:=by simpa using D
    omega
   subst f;rw[pw]at e;obtain rfl:=sI e;exact⟨_,_,⟨H,M,rfl,rfl,hm⟩,ep hm.le,Gh.sub<|by((repeat refine⟨rfl,?_⟩);exact trivial)⟩
end
end Go.Proofs
