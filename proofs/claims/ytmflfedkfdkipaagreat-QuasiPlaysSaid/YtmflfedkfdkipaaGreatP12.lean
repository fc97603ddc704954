import Derived.LaidEqlPtr
import Derived.Test.YtmflfedkfdkipaaGreatP11
set_option linter.all false
namespace Go.Vx
open Go Go.Rx
section
variable{P:DC}{T:Tb}(hT:j0 P T)
include hT
theorem z2n{tp te:TypeId}{sz:Nat}(hd:T.und tp=some (.pointer te))(hs:cD T te=some (sz+1))(d:Nat){a b:Addr}{ca cb:Zu Value}{ta tb:TypeId}(w:Nr)(ha:w.heap[a.block]? = some (.cells ca ta (0,0)))(hb:w.heap[b.block]? = some (.cells cb tb (0,0))):
  (Op.equalIn (d+1) tp (.pointer (some a)) (.pointer (some b))).run P w=.ok (decide (a=b)) w:=by by_cases e:a=b;subst e;simp[Op.equalIn,kM hT w hd,pR hT w hs,run_sameAddr_same];simp[Op.equalIn,kM hT w hd,pR hT w hs,run_sameAddr_other w e ha hb,e]
theorem z2m{tp te:TypeId}{sz:Nat}(hd:T.und tp=some (.pointer te))(hs:cD T te=some (sz+1)){a b:Addr}{ca cb:Zu Value}{ta tb:TypeId}(w:Nr)(ha:w.heap[a.block]? = some (.cells ca ta (0,0)))(hb:w.heap[b.block]? = some (.cells cb tb (0,0))):
  (Op.equal tp (.pointer (some a)) (.pointer (some b))).run P w=.ok (decide (a=b)) w:=z2n hT hd hs 9999 w ha hb
end
variable{x:Cx}
variable{k:Nat}
variable{l:X U}
variable{e:TypeId}
theorem row_at(hx:iZ x){m:Nm}{w:Nr}(hf:Fits m x.s w){i:Nat}(hg:gt x.Y.h k=some (.row l e))(hi:x.I k=some i):m.sh i=0/\∃c,w.heap[m.blk i]? = some (.cells c e (0,0)):=by obtain⟨_,_,j,l',hj,hl,_⟩:=hx.ok k _ hg;rw[hi]at hj;cases hj;have:=hf.ok i _ hl;simp only[v8,yH]at this;exact⟨this.1,_,this.2⟩
variable{e':TypeId}
theorem z8g(hx:iZ x){m:Nm}{w:Nr}(hf:Fits m x.s w){i k' i':Nat}{l':X U}(hg:gt x.Y.h k=some (.row l e))(hi:x.I k=some i)(sN:gt x.Y.h k'=some (.row l' e'))(i5:x.I k'=some i'):(m.blk i=m.blk i')↔k=k':=by constructor;intro h;obtain⟨_,_,j,r,hj,hl,_⟩:=hx.ok k _ hg;rw[hi]at hj;cases hj;obtain⟨_,_,j',r',tS,BE,_⟩:=hx.ok k' _ sN;rw[i5]at tS;cases tS;by_cases e:i=i';subst e;exact hx.inj k k' _ _ i hg sN hi i5;exact absurd h (hf.inj i i' _ _ hl BE e rfl);rintro rfl;rw[hi]at i5;cases i5;rfl
theorem Oq{v:Value}(hg:gt x.Y.h k=some (.row l e))(hr:aC x (.ptr k 0 0) v):∃i,x.I k=some i/\v=.pointer (some ⟨i,0,none⟩):=by simp only[aC]at hr;obtain⟨_,h2⟩:=hr.2.2 _ hg;exact h2 rfl
section
variable{C:PG}{T:Tb}(hT:j0 C.prog T)
include hT
theorem fN.peq{Y:Sg}{tm:X U}{o:Oper}{b:BinOp}{t ty te:TypeId}{sz k':Nat}{xo yo:Xt}{l':X U}(ho:o.op=.binOp b t xo yo ty)(hb:b=.eql\/b=.neq)(hd:T.und t=some (.pointer te))(hs:cD T te=some (sz+1))(hx:cG tm xo=some (.ptr k 0 0))(hy:cG tm yo=some (.ptr k' 0 0))(hg:gt Y.h k=some (.row l e))(sN:gt Y.h k'=some (.row l' e')):
  fN C Y tm o (fun u Y'=>u=.bool (if b=.eql then Nat.beq k k' else !Nat.beq k k')/\Y'=Y):=fun F x tv m w a next Q fH st hG hn ro eZ=>by
 subst fH;obtain⟨vx,ex,rx⟩:=jF st.e hx;obtain⟨vy,ey,ry⟩:=jF st.e hy;obtain⟨i,hi,rfl⟩:=Oq hg rx;obtain⟨i',i5,rfl⟩:=Oq sN ry;have hf:=st.fits.fits;obtain⟨s1,c1,h1⟩:=row_at st.h hf hg hi;obtain⟨s2,c2,h2⟩:=row_at st.h hf sN i5;have Cy:decide ((⟨m.blk i,m.sh i+0,none⟩:Addr)=⟨m.blk i',m.sh i'+0,none⟩)=Nat.beq k k':=by rw[s1,s2,beq_eq];have:=z8g st.h hf hg hi sN i5;by_cases e:k=k';rw[decide_eq_true e,this.2 e];simp;have h3:m.blk i≠m.blk i':=fun h=>e (this.1 h);rw[decide_eq_false e];simp[h3]
 have U3:a.eval xo=.pointer (some ⟨m.blk i,m.sh i+0,none⟩):=by have he:=(st.act.evalO ex).at;simp only[ren]at he;exact he.symm
 have Dc:a.eval yo=.pointer (some ⟨m.blk i',m.sh i'+0,none⟩):=by have he:=(st.act.evalO ey).at;simp only[ren]at he;exact he.symm
 have hp:=z2m hT hd hs (a:=⟨m.blk i,m.sh i+0,none⟩) (b:=⟨m.blk i',m.sh i'+0,none⟩) w h1 h2;rw[Cy]at hp;simp only[Nat.add_zero]at hp;have dG:(execOp a.eval o).run C.prog w=.ok (.value (.bool (if b=.eql then Nat.beq k k' else !Nat.beq k k'))) w:=by simp only[execOp,ho,U3,Dc];rcases hb with rfl |rfl;simp[eqGuard,binOp,hp];simp[eqGuard,binOp,hp]
 refine wH (by rw[ho];intro c hc;cases hc) ?_;unfold Oper.wp;rw[dG];have aS:=bT.refl st.fits;exact hn _ x (BX tv o.dst (.bool (if b=.eql then Nat.beq k k' else !Nat.beq k k'))) m w _ ⟨rfl,rfl⟩ ⟨st.h,st.fr,KV st.e (by simp[aC]) _,st.fits,st.act.put (NO fun _=>by simp[ren]) o.dst⟩ aS (Ke.refl _ _) (zF _) (HC _ _ _)
end
def pE(e:Nat×U×Nat):ME:=⟨.ptr e.1 0 0,e.2.1,e.2.2⟩
def vK(k:Nat):X (Nat×U×Nat)->V U
 |[]=>none|e::es=>cond (Nat.beq e.1 k) (some e.2.1) (vK k es)
def isRow(h:X (Nat×B))(k:Nat):Prop:=∃l e,gt h k=some (.row l e)
theorem w8.uncons{e:ME}{es:X ME}{vs:X MapEntry}(h:w8 x (e::es) vs):∃v sS,vs=v::sS/\aC x e.key v.key/\aC x e.val v.val/\v.born=e.born/\w8 x es sS:=by obtain⟨h1,h2⟩:=h;rcases vs with _|⟨v,vs⟩;simp at h1;obtain⟨v',e1,e2,e3,e4⟩:=h2 0 e rfl;simp at e1;subst e1;refine⟨v,vs,rfl,e2,e3,e4,by simpa using h1,fun i e he=>?_⟩;have:=h2 (i+1) e (by simpa using he);simpa using this
section
variable{P:DC}{T:Tb}(hT:j0 P T){x:Cx}(hx:iZ x){m:Nm}{w:Nr}(hf:Fits m x.s w){kt te:TypeId}{sz:Nat}(hd:T.und kt=some (.pointer te))(hs:cD T te=some (sz+1))
include hT hx hf hd hs
theorem qug{k i0:Nat}(hk:isRow x.Y.h k)(hi:x.I k=some i0):∀(es:X (Nat×U×Nat))(vs:X MapEntry)(i:Nat),(∀e∈es,isRow x.Y.h e.1)->w8 x (es.map pE) vs->
  ∃r,(Instr.findAsking kt (.pointer (some ⟨m.blk i0,m.sh i0,none⟩)) (vs.map (y8 m)) i).run P w=.ok r w/\(vK k es=none->r=none)/\∀u,vK k es=some u->∃j v,v∈vs/\r=some (j,ren m v.val)/\aC x u v.val
 |[],vs,i,_,hr=>by
  have:vs=[]:=by have:=hr.1;simpa using this.symm
  subst this;exact⟨none,by simp[Instr.findAsking],fun _=>rfl,fun u hu=>by simp[vK]at hu⟩
 |e::es,vs,i,he,hr=>by
  obtain⟨v,vs,rfl,Ci,hv1,_,Br⟩:=w8.uncons hr;obtain⟨l,t,hg⟩:=hk;obtain⟨l',t',sN⟩:=he e qq4;obtain⟨i1,Kt,jS⟩:=Oq sN Ci;obtain⟨s1,c1,h1⟩:=row_at hx hf hg hi;obtain⟨s2,c2,h2⟩:=row_at hx hf sN Kt;have hq:=z2m hT hd hs (a:=⟨m.blk i0,m.sh i0,none⟩) (b:=⟨m.blk i1,m.sh i1+0,none⟩) w h1 h2;have Cy:decide ((⟨m.blk i0,m.sh i0,none⟩:Addr)=⟨m.blk i1,m.sh i1+0,none⟩)=Nat.beq e.1 k:=by rw[s1,s2,beq_eq];have:=z8g hx hf hg hi sN Kt;by_cases LX:k=e.1;rw[decide_eq_true (show e.1=k from LX.symm),this.2 LX];simp;have h3:m.blk i0≠m.blk i1:=fun h=>LX (this.1 h);rw[decide_eq_false (show ¬ e.1=k from fun h=>LX h.symm)];simp[h3]
  rw[Cy]at hq;obtain⟨r,g1,g2,g3⟩:=qug ⟨l,t,hg⟩ hi es vs (i+1) (fun e zE=>he e (by simp[zE])) Br;have Wd:ren m v.key=.pointer (some ⟨m.blk i1,m.sh i1+0,none⟩):=by simp[jS,ren]
  cases hb:Nat.beq e.1 k with|true=>rw[hb]at hq;refine⟨some (i,ren m v.val),?_,fun h=>?_,fun u hu=>?_⟩;simp only[zQ,Instr.findAsking,y8,Wd,zK,hq,zJ,if_true,zL];simp[vK,hb]at h;simp only[vK,hb,zC,zA]at hu;subst hu;exact⟨i,v,by simp,rfl,hv1⟩|false=>rw[hb]at hq;refine⟨r,?_,fun h=>?_,fun u hu=>?_⟩;simp only[zQ,Instr.findAsking,y8,Wd,zK,hq,zJ,Bool.false_eq_true,if_false];exact g1;simp only[vK,hb,zD]at h;exact g2 h;simp only[vK,hb,zD]at hu;obtain⟨j,v',q1,q2,q3⟩:=g3 u hu;exact⟨j,v',by simp[q1],q2,q3⟩
theorem qqs{i0:Nat}(hk:isRow x.Y.h k)(hi:x.I k=some i0)(es:X (Nat×U×Nat))(vs:X MapEntry)(he:∀e∈es,isRow x.Y.h e.1)(hr:w8 x (es.map pE) vs):
  ∃r,(Instr.findKey kt (.pointer (some ⟨m.blk i0,m.sh i0,none⟩)) (vs.map (y8 m))).run P w=.ok r w/\(vK k es=none->r=none)/\∀u,vK k es=some u->∃j v,v∈vs/\r=some (j,ren m v.val)/\aC x u v.val:=by
 obtain⟨r,h1,h2,h3⟩:=qug hT hx hf hd hs hk hi es vs 0 he hr;refine⟨r,?_,h2,h3⟩;unfold Instr.findKey;simp only[zK,kM hT w hd,zJ];cases vs with
 |nil=>simp only[List.map_nil,Instr.findAsking,zL,Result.ok.injEq,and_true]at h1;subst h1;simp[Instr.findNow]|cons v vs=>simp only[zQ,Instr.findNow,Instr.sameNow];exact h1
omit hx hf hs in
theorem l?(b:PE)(n:Nat)(v:Value):(Instr.checkKey b (n+1) kt v).run P w=.ok () w:=by simp[Instr.checkKey,kM hT w hd]
end
section
variable{C:PG}{T:Tb}(hT:j0 C.prog T)
include hT
variable{Y:Sg}
variable{tm:X U}
variable{o:Oper}
variable{t:TypeId}
variable{sz:Nat}
variable{xo:Xt}
theorem fN.plook{kt et te:TypeId}{r a' b' cl:Nat}{z:Value}{zu:U}{ko:Xt}{ok:PE}{es:X (Nat×U×Nat)}(ho:o.op=.lookup t xo ko ok)(hd:T.und t=some (.map kt et))(hk:T.und kt=some (.pointer te))(hs:cD T te=some (sz+1))
  (hz:T.inf et=some (a',b',z)) (hzu:jP z=some zu) (hx:cG tm xo=some (.map r)) (hy:cG tm ko=some (.ptr k 0 0)) (hg:gt Y.h r=some (.map (es.map pE) cl)) (eA:isRow Y.h k) (hes:∀e∈es,isRow Y.h e.1):
  fN C Y tm o (fun u Y'=>u=(match vK k es with |some v=>cond ok (.tup [v,.bool true]) v |none=>cond ok (.tup [zu,.bool false]) zu)/\Y'=Y):=fun F x tv m w a next Q fH st hG hn ro eZ=>by
 subst fH;obtain⟨vx,ex,rx⟩:=jF st.e hx;obtain⟨vy,ey,ry⟩:=jF st.e hy;obtain⟨l0,e0,TV⟩:=eA;obtain⟨i0,hi0,rfl⟩:=Oq TV ry;obtain⟨i,es',h1,rfl,h3,h4,uG⟩:=z7u (m:=.map r) st.h rx hg;have hf:=st.fits.fits;have U3:a.eval xo=.map (some (m.blk i)):=by have he:=(st.act.evalO ex).at;simp only[ren]at he;exact he.symm
 have Dc:a.eval ko=.pointer (some ⟨m.blk i0,m.sh i0,none⟩):=by have he:=(st.act.evalO ey).at;simp only[ren,Nat.add_zero]at he;exact he.symm
 have BD:w.heap[m.blk i]? = some (.map (es'.map (y8 m)).toArray cl):=hf.ok i _ h3;have dC:=qne st.fits uG;obtain⟨r,g1,g2,g3⟩:=qqs hT st.h hf hk hs ⟨l0,e0,TV⟩ hi0 es es' hes h4;obtain⟨hz1,Kb⟩:=NG hT m w hz;have CE:=(v03 _ _ hzu).2 x;have key:∃v,(execOp a.eval o).run C.prog w=.ok (.value (ren m v)) w/\(∀m',aN x.s.nx m m'->ren m' v=ren m v)/\aC x (match vK k es with |some v=>cond ok (.tup [v,.bool true]) v |none=>cond ok (.tup [zu,.bool false]) zu) v:=by
  cases hp:vK k es with
  |none=>have:=g2 hp;subst this;refine⟨cond ok (.tuple #[z,.bool false]) z,?_,fun m' ha=>?_,?_⟩;simp only[execOp,ho,U3,Dc,Instr.lookup,zK,kM hT w hd,zJ,Rx.run_getObj_map BD,l? hT hk,g1,zL,hz1];cases ok;simp[Kb];simp[ren,aJ,Kb];have q1:=(NG hT m' w hz).2;cases ok;simp only[zD];rw[q1,Kb];simp only[zC,ren,uB,aJ];rw[q1,Kb];cases ok;exact CE;simp only[zC,aC];exact⟨_,rfl,by simp[c9,aC];exact CE,rfl⟩|some u=>
   obtain⟨j,v,q1,rfl,q3⟩:=g3 u hp;have hsv:∀m',aN x.s.nx m m'->ren m' v.val=ren m v.val:=fun m' ha=>by have h5:=dC m' ha;have h6:=List.map_inj_left.1 h5 v q1;simp only[y8,MapEntry.mk.injEq]at h6;exact h6.2.1
   refine⟨cond ok (.tuple #[v.val,.bool true]) v.val,?_,fun m' ha=>?_,?_⟩;simp only[execOp,ho,U3,Dc,Instr.lookup,zK,kM hT w hd,zJ,Rx.run_getObj_map BD,l? hT hk,g1,zL];cases ok;simp;simp[ren,aJ];cases ok;exact hsv m' ha;simp only[zC,ren,uB,aJ];rw[hsv m' ha];cases ok;exact q3;simp only[zC,aC];exact⟨_,rfl,by simp[c9,aC];exact q3,rfl⟩
 obtain⟨v,k1,k2,k3⟩:=key;refine wH (by rw[ho];intro c hc;cases hc) ?_;unfold Oper.wp;rw[k1];exact hn _ x (BX tv o.dst v) m w _ ⟨rfl,rfl⟩ ⟨st.h,st.fr,KV st.e k3 _,st.fits,st.act.put k2 o.dst⟩ (bT.refl st.fits) (Ke.refl _ _) (zF _) (HC _ _ _)
theorem fN.pins{kt et te:TypeId}{r cl:Nat}{v:U}{ko vo:Xt}{es:X (Nat×U×Nat)}(ho:o.op=.mapUpdate t xo ko vo\/o.op=.insert t xo ko vo)(hd:T.und t=some (.map kt et))(hk:T.und kt=some (.pointer te))(hs:cD T te=some (sz+1))
  (hx:cG tm xo=some (.map r)) (hy:cG tm ko=some (.ptr k 0 0)) (hv:cG tm vo=some v) (hg:gt Y.h r=some (.map (es.map pE) cl)) (eA:isRow Y.h k) (hes:∀e∈es,isRow Y.h e.1) (hp:vK k es=none):
  fN C Y tm o (fun u Y'=>u=.junk/\Y'=⟨ug Y.h r (.map ((es++[(k,v,cl)]).map pE) (cl+1)),Y.nx⟩):=fun F x tv m w a next Q fH st hG hn ro eZ=>by
 subst fH;obtain⟨vx,ex,rx⟩:=jF st.e hx;obtain⟨vy,ey,ry⟩:=jF st.e hy;obtain⟨vv,ev,rv⟩:=jF st.e hv;have ry0:=ry;obtain⟨l0,e0,TV⟩:=eA;obtain⟨i0,hi0,rfl⟩:=Oq TV ry;obtain⟨i,es',h1,rfl,h3,h4,uG⟩:=z7u (m:=.map r) st.h rx hg;have hf:=st.fits.fits;have U3:a.eval xo=.map (some (m.blk i)):=by have he:=(st.act.evalO ex).at;simp only[ren]at he;exact he.symm
 have Dc:a.eval ko=.pointer (some ⟨m.blk i0,m.sh i0,none⟩):=by have he:=(st.act.evalO ey).at;simp only[ren,Nat.add_zero]at he;exact he.symm
 have BD:w.heap[m.blk i]? = some (.map (es'.map (y8 m)).toArray cl):=hf.ok i _ h3;have dC:=qne st.fits uG;obtain⟨r',g1,g2,_⟩:=qqs hT st.h hf hk hs ⟨l0,e0,TV⟩ hi0 es es' hes h4;have:=g2 hp;subst this;obtain⟨w₁,e1,aS⟩:=zai (P:=C.prog) st.fits uG (es':=es'++[{ key:=.pointer (some ⟨i0,0,none⟩),val:=vv,born:=cl }]) (cl':=cl+1) (ces:=es'.map (y8 m)++[{ key:=.pointer (some ⟨m.blk i0,m.sh i0,none⟩),val:=a.eval vo,born:=cl }]) (fun m' ha=>by have q1:=(st.act.evalO ey) m' ha;have q2:=(st.act.evalO ev) m' ha;rw[Dc]at q1;simp only[List.map_append,zQ,List.map_nil,dC m' ha,y8,q1,q2]);have dG:(execOp a.eval o).run C.prog w=.ok .skip w₁:=by
  have hr1:(Instr.mapUpdate t (a.eval xo) (a.eval ko) (a.eval vo)).run C.prog w=.ok () w₁:=by simp only[U3,Dc,Instr.mapUpdate,zK,kM hT w hd,zJ,Rx.run_getObj_map BD,l? hT hk,g1];rw[<-e1];simp
  rcases ho with ho |ho;simp only[execOp,ho,zK,hr1,zJ,zL];simp only[execOp,ho,zK,hr1,zJ,zL]
 have kQ:=z9n st.h hg h1 h3 (h4.snoc (k:=.ptr k 0 0) (v:=v) ry0 rv cl) (cl1:=cl+1);refine wH (by rcases ho with ho |ho<;>(rw[ho];intro c hc;cases hc)) ?_;unfold Oper.wp;rw[dG];have em:(es.map pE++[⟨.ptr k 0 0,v,cl⟩])=(es++[(k,v,cl)]).map pE:=by simp[pE]
 rw[em]at kQ;exact hn _ ⟨x.I,z08 x.Y r ((es++[(k,v,cl)]).map pE) (cl+1),aj x.s i (es'++[{ key:=.pointer (some ⟨i0,0,none⟩),val:=vv,born:=cl }]) (cl+1)⟩ (BX tv o.dst undef) m w₁ _ ⟨rfl,rfl⟩
  ⟨kQ.h,kQ.fr F st.fr,KV (kQ.mo.ke.E st.e.bel st.e) (by simp[aC]) _,aS.fits,(st.act.ext aS.agree aS.nx).put (NO fun _=>by simp[undef,ren,aJ]) o.dst⟩ aS kQ.mo.ke kQ.mo.nx (HC _ _ _)
theorem fN.cut0{K st off:Nat}{lo:Xt}(ho:o.op=.slice t xo (some lo) none none)(hd:T.und t=some (.slice e))(hs:cD T e=some (sz+1))(hx:cG tm xo=some (.vl K st off 1))(hl:cG tm lo=some (.int .i64 1))
  (hg:gt Y.h K=some (.vec l e' (sz+1) st)) (aQ:(off+1)*(sz+1)<=l.length):
  fN C Y tm o (fun u Y'=>(u=.vl K (st+1) 0 0/\Y'=⟨ug Y.h K (.vec [] e' (sz+1) (st+1)),Y.nx⟩)\/(u=.isl true []/\Y'=Y)):=fun F x tv m w a next Q fH bJ hG hn ro eZ=>by
 subst fH;obtain⟨vx,ex,rx⟩:=jF bJ.e hx;obtain⟨vl,el,rl⟩:=jF bJ.e hl;simp only[aC]at rl;subst rl;simp only[aC]at rx;obtain⟨_,hK,h0⟩:=rx;obtain⟨l2,e2,sz2,hb,tB⟩:=(h0 _ hg).2 rfl;cases hb;obtain⟨_,hBk⟩:=bJ.h.ok K _ hg;obtain⟨_,_,hB⟩:=hBk;rcases hB with⟨gz,_⟩|⟨i,l',jI,FP,hE⟩;rw[gz]at aQ;simp at aQ;rw[jI]at tB;simp only[K9]at tB;rcases tB with⟨_,hbad,_⟩|rfl;omega;have hf:=bJ.fits.fits;obtain⟨pre,rest,o3,nY,iU⟩:=(hf.ok i _ FP:yH m i _ e' w (sz+1+2));have rL:l'.length=l.length:=hE.2.symm;have Xd:1<=m.cp i-off:=by
  have h1:(off+1)*(sz+1)<=m.cp i*(sz+1):=by omega
  have:=Nat.le_of_mul_le_mul_right h1 qq0;omega
 have Xc:dM m i (cV+off)=m.cp i-off:=by
  have h:¬ cV+off<cV:=by omega
  simp[dM,cT,h]
 have U3:a.eval xo=.slice (some ⟨m.blk i,m.sh i+off*(sz+1),none⟩) 1 (m.cp i-off):=by have he:=(bJ.act.evalO ex).at;simp only[ren,Xc]at he;exact he.symm
 have lU:a.eval lo=.int .i64 1:=by have he:=(bJ.act.evalO el).at;simp only[ren]at he;exact he.symm
 have hb:mV 1 1 (some (.int .i64 1)) none=some (1,1,1):=by decide
 obtain⟨b1,_⟩:=Pt (P:=C.prog) (isS:=true) m w hb Xd;simp only[zM,Option.map_none,ren,Option.isSome_none,Bool.false_eq_true,if_false]at b1;have dG:(execOp a.eval o).run C.prog w=.ok (.value (.slice (if m.cp i-off=1 then some ⟨m.blk i,m.sh i+off*(sz+1),none⟩else some ⟨m.blk i,m.sh i+off*(sz+1)+1*(sz+1),none⟩) 0 (m.cp i-off-1))) w:=by simp only[execOp,ho,U3,zM,Option.map_none,lU,Instr.sliceAt,zK,kM hT w hd,zJ,Instr.slice,b1,pR hT w hs,zL,FD]
 refine wH (by rw[ho];intro c hc;cases hc) ?_;unfold Oper.wp;rw[dG];have II:=bJ.h.bd i _ FP;by_cases hC:m.cp i-off=1;rw[if_pos hC,hC];exact hn (.isl true []) x (BX tv o.dst (.slice (some ⟨i,off*(sz+1),none⟩) 0 0)) m w _ (.inr ⟨rfl,rfl⟩) ⟨bJ.h,bJ.fr,KV bJ.e (by simp only[aC];exact .inr ⟨i,off*(sz+1),0,rfl,(fun _=>⟨rfl,by simp[cV]⟩),.inl trivial⟩) _,bJ.fits,bJ.act.put (fun m' ha=>by obtain⟨q1,q2,_⟩:=ha i II;simp[ren,q1,q2,dM,cV]) o.dst⟩ (bT.refl bJ.fits) (Ke.refl _ _) (zF _) (HC _ _ _);rw[if_neg hC];have aS:bT m x.s w (m.set x.s.nx (m.blk i) (m.sh i+off*(sz+1)+1*(sz+1)) (m.cp i-off-1)) ⟨(x.s.nx,.inl ([],e',sz+1+2))::rm x.s.h i,x.s.nx+1⟩ w:=bT.rename bJ.fits FP rfl _ _ (fun _ _=>rfl) rfl rfl rfl rfl (zF _) fun m' ha=>by
  obtain⟨tV,FY,PK⟩:=ha x.s.nx (zN _);obtain⟨e1,e2,e3⟩:=C3 m x.s.nx (m.blk i) (m.sh i+off*(sz+1)+1*(sz+1)) (m.cp i-off-1);have pF:(pre++aJ m l'++rest).length=m.sh i+m.cp i*(sz+1):=by simp[nY];omega
  have hmul:m.cp i*(sz+1)=off*(sz+1)+1*(sz+1)+(m.cp i-off-1)*(sz+1):=by rw[<-Nat.add_mul,<-Nat.add_mul];congr 1;omega
  refine⟨(pre++aJ m l'++rest).take (m.sh i+off*(sz+1)+1*(sz+1)),(pre++aJ m l'++rest).drop (m.sh i+off*(sz+1)+1*(sz+1)),?_,?_,?_⟩;rw[tV,e1,o3];simp[aJ];rw[FY,e2,List.length_take,pF];omega;rw[PK,e3,List.length_drop,pF];simp only[zS];omega
 have I3:=Pa bJ.h hg (l1:=[]) (some x.s.nx) ⟨(x.s.nx,.inl ([],e',sz+1+2))::rm x.s.h i,x.s.nx+1⟩ (fun j b hj cR=>by
   have h1:x.s.nx≠j:=by have:=bJ.h.bd j b hj;omega
   have h2:i≠j:=fun h=>cR (by rw[jI,h]);simp only[mL,h1,if_false,Gd,h2];exact hj)
  (fun j hj=>by cases hj;exact .inr (zF _))
  (fun j b hj=>by simp only[mL]at hj;by_cases h1:x.s.nx=j;show j<x.s.nx+1;omega;simp only[h1,if_false,Gd]at hj;by_cases h2:i=j;simp[h2]at hj;simp only[h2,if_false]at hj;have:=bJ.h.bd j b hj;show j<x.s.nx+1;omega)
  rfl (fun y _ _=>.inr ⟨x.s.nx,[],rfl,by simp[mL],bA.nil _⟩)
 exact hn (.vl K (st+1) 0 0) ⟨mB x.I K (some x.s.nx),⟨ug x.Y.h K (.vec [] e' (sz+1) (st+1)),x.Y.nx⟩,⟨(x.s.nx,.inl ([],e',sz+1+2))::rm x.s.h i,x.s.nx+1⟩⟩ (BX tv o.dst (.slice (some ⟨x.s.nx,0,none⟩) 0 cV)) _ w _ (.inl ⟨rfl,rfl⟩)
  ⟨I3.h,I3.fr F bJ.fr,KV (I3.mo.ke.E bJ.e.bel bJ.e) (Oo bJ.h hg rfl (.inr qq4)) _,aS.fits,(bJ.act.ext aS.agree aS.nx).put (YQ (zN _) fun m' ha=>by rw[Qe];obtain⟨_,_,e3⟩:=C3 m x.s.nx (m.blk i) (m.sh i+off*(sz+1)+1*(sz+1)) (m.cp i-off-1);exact(ha x.s.nx (zN _)).2.2.trans e3) o.dst⟩ aS I3.mo.ke I3.mo.nx (HC _ _ _)
end
def Gi(p:Nat->Prop):X Nat->Prop
 |[]=>True|i::l=>p i/\Gi p l
theorem Gi.mem{p:Nat->Prop}:∀{l:X Nat},Gi p l->∀i∈l,p i
 |j::l,h,i,hi=>by rcases zI.1 hi with rfl |hi;exact h.1;exact Gi.mem h.2 i hi
def qj(C:PG)(T:Tb)(aA:Zu Oper)(n0 n:Nat)(l:X (Nat×U))(Y:Sg)(K:X (Nat×U)->Sg->Prop)(i:Nat): Prop :=
  ∃o,nth aA.toList i=some o/\c8 aA.toList (fr n l) o=some true/\bz n o.dst=true/\ ((∃u s1,bI T Y (fr n l) o.op=some (u,s1)/\∃l' Y',Gh n0 (fr n (VX l o.dst u)) s1 (fr n l') Y'/\n0<=Y'.nx/\K l' Y')\/ (∃f args R,jO T (fr n l) o.op=some (f,args)/\aW C.prog f args Y R/\∀u s1,R u s1->∃l' Y',Gh n0 (fr n (VX l o.dst u)) s1 (fr n l') Y'/\n0<=Y'.nx/\K l' Y')\/ (∃R,fN C Y (fr n l) o R/\∀u s1,R u s1->∃l' Y',Gh n0 (fr n (VX l o.dst u)) s1 (fr n l') Y'/\n0<=Y'.nx/\K l' Y'))
def AB:X PE->Nat->PE
 |[],_=>false|b::_,0=>b
 |_::l,k+1=>AB l k
theorem Pe:∀(d:X PE)(k:Nat),AB d k=d.toArray.getD k false
 |[],k=>by simp[AB,Array.getD]
 |b::d,0=>by simp[AB,Array.getD]
 |b::d,k+1=>by rw[AB,Pe d k];simp[Array.getD]
def okA(d:X PE):X Edge->PE
 |[]=>true|e::l=>cond (Region.binds .any e) (cond (AB d e.on) (okA d l) false) (okA d l)
theorem oi(d:X PE):∀(l:X Edge),okA d l=true↔∀e∈l,Region.binds .any e=true->d.toArray.getD e.on false=true
 |[]=>by simp[okA]
 |e::l=>by have ih:=oi d l;rw[okA];rcases hb:Region.binds .any e with _|_;rw[zD,ih];exact⟨fun h x hx cK=>by rcases zI.1 hx with rfl |hx;(rw[hb]at cK;cases cK);exact h x hx cK,fun h x hx=>h x (List.mem_cons_of_mem _ hx)⟩;rw[zC];rcases hn:AB d e.on with _|_;rw[zD];exact⟨fun h=>(by cases h),fun h=>by have:=h e qq4 hb;rw[<-Pe,hn]at this;cases this⟩;rw[zC,ih];exact⟨fun h x hx cK=>by rcases zI.1 hx with rfl |hx;(rw[<-Pe];exact hn);exact h x hx cK,fun h x hx=>h x (List.mem_cons_of_mem _ hx)⟩
def GM(d:X PE):Nat->X Oper->X Nat
 |_,[]=>[]|i,o::os=>cond (AB d i) (GM d (i+1) os) (cond (okA d o.after.toList) (i::GM d (i+1) os) (GM d (i+1) os))
theorem z24(d:X PE): ∀(os:X Oper)(i j:Nat),j∈GM d i os↔∃k o,j=i+k/\os[k]? = some o/\AB d j=false/\okA d o.after.toList=true
  |[],i,j=> by simp[GM]
  |o::os,i,j=> by
    have ih:=z24 d os (i+1) j;have tl:(∃k o',j=i+1+k/\os[k]? = some o'/\AB d j=false/\okA d o'.after.toList=true)->∃k o',j=i+k/\(o::os)[k]? = some o'/\AB d j=false/\okA d o'.after.toList=true:=fun⟨k,o',h1,h2,h3⟩=> ⟨k+1,o',by omega,by simpa using h2,h3⟩;have ht:(∃k o',j=i+k/\(o::os)[k]? = some o'/\AB d j=false/\okA d o'.after.toList=true)->(j=i/\AB d i=false/\okA d o.after.toList=true)\/∃k o',j=i+1+k/\os[k]? = some o'/\AB d j=false/\okA d o'.after.toList=true:=fun⟨k,o',h1,h2,h3,h4⟩=> by
      cases k with
      | zero => simp at h2; subst h2; have : j = i := by omega
                subst this;exact .inl ⟨rfl,h3,h4⟩
      |succ k=> exact .inr ⟨k,o',by omega,by simpa using h2,h3,h4⟩
    rw[GM];cases hn:AB d i with
    |true=> rw[zC,ih];exact⟨tl,fun h=> (ht h).elim (fun q=> by rw[hn]at q;cases q.2.1) id⟩|false=>rw[zD];rcases hk:okA d o.after.toList with _|_;rw[zD,ih];exact⟨tl,fun h=> (ht h).elim (fun q=> by rw[hk]at q;cases q.2.2) id⟩;rw[zC,zI,ih];exact⟨fun h=> h.elim (fun q=> ⟨0,o,by omega,rfl,by rw[q];exact hn,hk⟩) tl,fun h=> (ht h).imp (·.1) id⟩
theorem nj(aA:Zu Oper)(d:X PE)(hd:d.length=aA.size)(i:Nat):i∈Region.ready .any aA d.toArray↔i∈GM d 0 aA.toList:=by
 rw[z24];unfold Region.ready;rw[List.mem_filter,List.mem_range];constructor;rintro⟨hi,h⟩;have ho:aA[i]? = some aA[i]:=by simp[hi]
 simp only[ho,zM,Option.getD_some,Bool.and_eq_true,Bool.not_eq_true',Array.all_eq_true_iff_forall_mem,Bool.or_eq_true]at h;refine⟨i,aA[i],by omega,by simpa using ho,?_,(oi d _).2 fun e he hb=>?_⟩;rw[Pe];have h1:=h.1;have hl:i<d.length:=by omega
 simpa[Array.getD,hl]using h1;rcases h.2 e (by simpa using he)with h1 |h1;simp[hb]at h1;exact h1;rintro⟨k,o,rfl,h1,h2,h3⟩;rw[Nat.zero_add]at h2 ⊢;have ho:aA[k]? = some o:=by simpa using h1
 have hi:k<aA.size:=(Array.getElem?_eq_some_iff.1 ho).1;refine⟨hi,?_⟩;simp only[ho,zM,Option.getD_some,Bool.and_eq_true,Bool.not_eq_true',Array.all_eq_true_iff_forall_mem,Bool.or_eq_true];refine⟨?_,fun e he=>?_⟩;rw[Pe]at h2;have hl:k<d.length:=by omega
 simpa[Array.getD,hl]using h2;rcases hb:Region.binds .any e with _|_;exact .inl rfl;exact .inr ((oi d _).1 h3 e (by simpa using he) hb)
def RI(C:PG)(T:Tb)(aA:Zu Oper)(n0 n:Nat)(Q:Exit->X U->Sg->Prop):Nat->X PE->X (Nat×U)->Sg->Prop
 |0,d,l,Y=>GM d 0 aA.toList=[]/\∃l' Y',Gh n0 (fr n l) Y (fr n l') Y'/\n0<=Y'.nx/\Q .normal (fr n l') Y'|k+1,d,l,Y=>(GM d 0 aA.toList).isEmpty=false/\Gi (fun j=>qj C T aA n0 n l Y (RI C T aA n0 n Q k (d.set j true)) j) (GM d 0 aA.toList)
section
variable{C:PG}{T:Tb}(hT:j0 C.prog T){n0 n:Nat}{aA:Zu Oper}{Q:Exit->X U->Sg->Prop}
include hT
theorem QW{ro:V Nat}(eZ:C.ro ro){F:Nat->mI->Prop}{x0:Cx}{m0:Nm}{w0:Nr}{E:Exit->Act->Nr->Prop}{df:X Deferred}(LZ:VU C n0 x0 m0 w0)(hf0:gD m0 x0.s w0)(hQ:∀y tm tv m w a,Q .normal tm y.Y->St F y tm tv m w a->bT m0 x0.s w0 m y.s w->Ke n0 x0 y->n0<=y.Y.nx->a.defers=df->E .normal a w):
  ∀(k:Nat)(d:X PE)(a:Act)(w:Nr)(m:Nm)(l:X (Nat×U))(tv:X Value)(x:Cx),d.length=aA.size->RI C T aA n0 n Q k d l x.Y->St F x (fr n l) tv m w a->bT m0 x0.s w0 m x.s w->Ke n0 x0 x->n0<=x.Y.nx->a.defers=df->wpAnyIn (AD ro) 0 C.prog .any aA E k d.toArray a w:=by
 intro k;induction k with
 |zero=>intro d a w m l tv x hd h st aS iH iR m8;obtain⟨h1,l',Y',Cn,CN,hq⟩:=h;obtain⟨z,g1,g2,g3,g4,g5,g6⟩:=Cn F x tv rfl st.h st.fr st.e;have ga:=g1 m w st.fits;refine⟨?_,hQ z _ tv m w a (by rw[g2];exact hq) ⟨g3,g4,g5,ga.fits,st.act.ext ga.agree ga.nx⟩ (aS.trans ga) (iH.trans g6) (by rw[g2];exact CN) m8⟩;refine List.eq_nil_iff_forall_not_mem.2 fun i hi=>?_;rw[nj aA d hd,h1]at hi;cases hi
 |succ k ih=>
  intro d a w m l tv x IM h st aS iH iR m8;obtain⟨hr,he⟩:=h;refine⟨fun Bx=>?_,fun j hj=>?_⟩;exfalso;rcases hq:GM d 0 aA.toList with _|⟨i,q⟩;rw[hq]at hr;cases hr;have:=(nj aA d IM i).2 (by rw[hq];simp);rw[Bx]at this;cases this;rw[nj aA d IM]at hj;obtain⟨o,ho,hw,hd,hs⟩:=Gi.mem he j hj;have ho:aA[j]? = some o:=by rw[kK]at ho;simpa using ho
  rw[show d.toArray.setIfInBounds j true=(d.set j true).toArray by simp];have fin:∀y u dJ aL w₁ bD,(∃l' Y',Gh n0 (fr n (VX l o.dst u)) y.Y (fr n l') Y'/\n0<=Y'.nx/\RI C T aA n0 n Q k (d.set j true) l' Y')->St F y (eH (fr n l) o.dst u) dJ aL w₁ bD->bT m x.s w aL y.s w₁->Ke x.Y.nx x y->bD.defers=a.defers->wpAnyIn (AD ro) 0 C.prog .any aA E k (d.set j true).toArray bD w₁:=fun y u dJ aL w₁ bD ⟨l',Y',Cn,CN,hK⟩ bJ cX eS hZ=>by rw[sG u hd]at bJ;obtain⟨z,g1,g2,g3,g4,g5,g6⟩:=Cn F y dJ rfl bJ.h bJ.fr bJ.e;have ga:=g1 aL w₁ bJ.fits;exact ih _ bD w₁ aL l' dJ z (by simpa using IM) (by rw[g2];exact hK) ⟨g3,g4,g5,ga.fits,bJ.act.ext ga.agree ga.nx⟩ (aS.trans (cX.trans ga)) (iH.trans ((eS.le iR).trans g6)) (by rw[g2];exact CN) (hZ.trans m8)
  unfold wpOpIn;simp only[ho];rw[I_ (st.act m (aN.refl _ _)) aA o,H9 st.e hw];simp only[if_true];rcases hs with⟨u,s1,h1,h2⟩|⟨f,args,R,h1,h2,h3⟩|⟨R,h1,h3⟩;exact wH (RG h1) (st.op hT o h1 fun y dJ aL w₁ bD e1 bJ cX eS nB hZ=>fin y u dJ aL w₁ bD (by rw[e1];exact h2) bJ cX eS hZ);exact wH (jp h1) (st.call hT o h1 h2 fun y u dJ aL w₁ bD hR bJ cX eS nB hZ=>fin y u dJ aL w₁ bD (h3 u _ hR) bJ cX eS hZ);exact h1 F x tv m w a _ _ rfl st ⟨Nat.le_trans LZ.nb iR,(LZ.adv hf0 aS iH).g⟩ (fun u y dJ aL w₁ bD hR bJ cX eS nB hZ=>fin y u dJ aL w₁ bD (h3 u _ hR) bJ cX eS hZ) ro eZ
theorem WPU.any{id:Nat}{l lF:X (Nat×U)}{Y YF:Sg}(h:Q .normal (fr n lF) YF->RI C T aA n0 n Q aA.size (List.replicate aA.size false) l Y)(O:Q .normal (fr n lF) YF):WPU C n0 (.region id aA true) (fr n l) Y Q:=fun hn F x tv m w a b0 hx st hG hd ro eZ=>by
 refine wpIn_region_any hT.mixed ?_;rw[show(Array.replicate aA.size false)=(List.replicate aA.size false).toArray by simp];refine QW hT (ro:=ro) eZ (n0:=n0) (F:=F) (x0:=x) (m0:=m) (w0:=w) (df:=a.defers) hG st.fits (fun y tm' dJ m' w' a' hq h2 h3 h4 h5 h6=>⟨y,tm',dJ,m',hq,h2,h3,h4,h5,by rw[h6];exact hd.adv st.fits h3⟩) aA.size _ a _ m l tv x qq4 (hx ▸ h O) ⟨st.h,st.fr,st.e,(bT.draw _ st.fits).fits,st.act⟩ (bT.draw _ st.fits) (Ke.refl _ _) (hx ▸ hn) rfl
end
def oH(Y:Sg):Prop:=∀k b,gt Y.h k=some b->k<Y.nx/\BelB Y.nx b
theorem iZ.wf{x:Cx}(h:iZ x):oH x.Y:=fun k b hg=>⟨(h.ok k b hg).1,(h.ok k b hg).2.belB⟩
theorem aW.wf{P:DC}{f:FuncId}{args:X U}{Y:Sg}{Q:U->Sg->Prop}(h:oH Y->aG Y.nx args->aW P f args Y Q):aW P f args Y Q:=fun F x vs m w cargs hx hh fG he dV hc=>h (hx ▸ hh.wf) (hx ▸ he.bel) F x vs m w cargs hx hh fG he dV hc
variable{N:Nat}
variable{tm:X U}
variable{H:X (Nat×B)}
variable{Y:Sg}
theorem Gh.back{n0:Nat}(hw:oH Y)(hs:∀k,k<Y.nx->gt H k=gt Y.h k)(hN:Y.nx<=N)(hb:aG Y.nx tm)(h0:n0<=Y.nx):Gh n0 tm ⟨H,N⟩ tm Y:=by
 have h1:∀k,gt (Vx.cut Y.nx H) k=gt Y.h k:=fun k=>by rw[Y5];by_cases hk:k<Y.nx;rw[if_pos hk,hs k hk];rw[if_neg hk];rcases hg:gt Y.h k with _|b;rfl;exact absurd (hw k b hg).1 hk
 have h2:Gh n0 tm ⟨H,N⟩ tm ⟨Vx.cut Y.nx H,Y.nx⟩:=Gh.cutG (Y:=⟨H,N⟩) h0 hN hb fun k b hg=>by rw[h1]at hg;exact(hw k b hg).2
 exact h2.trans (Gh.same (Y:=⟨Vx.cut Y.nx H,Y.nx⟩) Y.h fun k=>(h1 k).symm)
section
variable{T:Tb}{n:Nat}{l:X (Nat×U)}{rs:X ResultVar}
variable{u:U}
variable{R:U->Sg->Prop}
theorem Td{us:X U}(hw:oH Y)(hr:kZ T ⟨H,N⟩ (fr n l) rs=some us)(hu:m5 us=u)(hs:∀k,k<Y.nx->gt H k=gt Y.h k)(hN:Y.nx<=N)(hb:aT Y.nx u)(hR:R u Y):
  (Exit.ret=.normal\/Exit.ret=.ret)/\∃l',kZ T ⟨H,N⟩ (fr n l) rs=some l'/\∃u' aU,Y.nx<=aU.nx/\Gh Y.nx [m5 l'] ⟨H,N⟩ [u'] aU/\R u' aU :=
 ⟨.inr rfl,us,hr,u,Y,zF _,by subst hu;exact Gh.back hw hs hN (by simp only[aG,and_true];exact hb) (zF _),hR⟩
variable{o8:Sg}
theorem Tc{us:X U}(hr:kZ T Y (fr n l) rs=some us)(hu:m5 us=u)(hN:o8.nx<=Y.nx)(hR:R u Y):
  (Exit.ret=.normal\/Exit.ret=.ret)/\∃l',kZ T Y (fr n l) rs=some l'/\∃u' aU,o8.nx<=aU.nx/\Gh o8.nx [m5 l'] Y [u'] aU/\R u' aU :=
 ⟨.inr rfl,us,hr,u,Y,hN,by subst hu;exact Gh.refl _ _ _,hR⟩
variable{a:Tmp}
variable{t:X ResultVar}
theorem qz(hw:oH Y)(ht:rs=.tmp a::t)(h:bM n l (.tmp a)=some u)(h0:t=[])(hs:∀k,k<Y.nx->gt H k=gt Y.h k)(hN:Y.nx<=N)(hb:aT Y.nx u)(hR:R u Y):
  (Exit.ret=.normal\/Exit.ret=.ret)/\∃l',kZ T ⟨H,N⟩ (fr n l) rs=some l'/\∃u' aU,Y.nx<=aU.nx/\Gh Y.nx [m5 l'] ⟨H,N⟩ [u'] aU/\R u' aU:=by subst ht;subst h0;exact Td hw (dT h eD) rfl hs hN hb hR
theorem XV{b:Tmp}{v:U}(hw:oH Y)(ht:rs=.tmp a :: .tmp b::t)(h:bM n l (.tmp a)=some u)(h':bM n l (.tmp b)=some v)(h0:t=[])(hs:∀k,k<Y.nx->gt H k=gt Y.h k)(hN:Y.nx<=N)(hb:aT Y.nx (.tup [u,v]))(hR:R (.tup [u,v]) Y):
  (Exit.ret=.normal\/Exit.ret=.ret)/\∃l',kZ T ⟨H,N⟩ (fr n l) rs=some l'/\∃u' aU,Y.nx<=aU.nx/\Gh Y.nx [m5 l'] ⟨H,N⟩ [u'] aU/\R u' aU:=by subst ht;subst h0;exact Td hw (dT h (dT h' eD)) rfl hs hN hb hR
theorem C1(ht:rs=.tmp a::t)(h:bM n l (.tmp a)=some u)(h0:t=[])(hN:o8.nx<=Y.nx)(hR:R u Y):
  (Exit.ret=.normal\/Exit.ret=.ret)/\∃l',kZ T Y (fr n l) rs=some l'/\∃u' aU,o8.nx<=aU.nx/\Gh o8.nx [m5 l'] Y [u'] aU/\R u' aU:=by subst ht;subst h0;exact Tc (dT h eD) rfl hN hR
theorem Gc{b:Tmp}{v:U}(ht:rs=.tmp a :: .tmp b::t)(h:bM n l (.tmp a)=some u)(h':bM n l (.tmp b)=some v)(h0:t=[])(hN:o8.nx<=Y.nx)(hR:R (.tup [u,v]) Y):
  (Exit.ret=.normal\/Exit.ret=.ret)/\∃l',kZ T Y (fr n l) rs=some l'/\∃u' aU,o8.nx<=aU.nx/\Gh o8.nx [m5 l'] Y [u'] aU/\R u' aU:=by subst ht;subst h0;exact Tc (dT h (dT h' eD)) rfl hN hR
end
section
variable{T:Tb}{n:Nat}{l:X (Nat×U)}{h:X (Nat×B)}{nx:Nat}{op:Op}
theorem oNc{k off:Nat}{x:Xt}{q:X U}{e:TypeId}(ho:op=.nilCheck x)(hx:bM n l x=some (.ptr k 0 off))[g:eE h k (.row q e)]:bI T ⟨h,nx⟩ (fr n l) op=some (.ptr k 0 off,⟨h,nx⟩):=by subst ho;exact DJ hx (by simp only[live,g.h];rfl)
end
variable{A:Prop}
theorem opn (h:A:=by first
 |exact Go.Vx.oNc rfl rfl
 |exact opx):A:=h
theorem opm (h:A:=by first
 |exact Go.Vx.oNc rfl rfl
 |exact opy):A:=h
section
variable{T:Tb}{aA r:X Oper}{o:Oper}{n:Nat}{l:X (Nat×U)}{Y Y':Sg}{u:U}
theorem RS.on{C:PG}{K:X U->Sg->Prop}{d:Tmp}(hk:RU C T aA r (fr n ((d,u)::l)) Y' K)(h:bI T Y (fr n l) o.op=some (u,Y'):=by exact opn)(he:o.dst=some d:=by exact rfl)(hw:c8 aA (fr n l) o=some true:=by exact wA)(hd:Nat.blt d n=true:=by exact rfl):RU C T aA (o::r) (fr n l) Y K:=RS.op hw h he hd hk
theorem RD.on{P:DC}{aZ:X RK}{K:X RK->X U->Sg->Prop}{d:Tmp}(hk:RH P T aA r (fr n ((d,u)::l)) Y ((1,⟨fr n l,o,u,false,false,Y,Y⟩)::aZ) K)(h:bI T Y (fr n l) o.op=some (u,Y):=by exact opm)(he:o.dst=some d:=by exact rfl)(hw:c8 aA (fr n l) o=some true:=by exact wA)(hd:Nat.blt d n=true:=by exact rfl):RH P T aA (o::r) (fr n l) Y aZ K:=RD.look hw h he hd hk
end
theorem goN{B:Prop}(h:B)(g:Hd B->A:=by intro h;(repeat' first |refine Go.Vx.gs ?_ |refine Go.Vx.RS.on ?_ |refine Go.Vx.rg1 rfl ?_);exact h.h):A:=g ⟨h⟩
theorem gnN{B:Prop}(h:B)(g:Hd B->A:=by intro h;(repeat' first |refine Go.Vx.gs ?_ |refine Go.Vx.RS.on ?_);exact h.h):A:=g ⟨h⟩
theorem cM{B:Prop}(h:B) (g:Hd B->A:=by
 intro h
 repeat' first
  |(refine Go.Vx.RD.nt rfl rfl rfl ?_ rfl ?_;· first |with_reducible_and_instances assumption |exact rfl)
  |(refine Go.Vx.RD.nf rfl rfl rfl ?_ rfl ?_;· first |with_reducible_and_instances assumption |exact rfl)
  |refine Go.Vx.RD.on ?_
 exact h.h):A:=g ⟨h⟩
variable{K:Nat}
theorem Hb(b:B)(sz:Nat){c:B}(h:BelB K c):fzB K b sz c=c:=by
 cases c with
 |row l e=>simp only[fzB];rw[tP _ _ _ h]|vec l e s st=>simp only[fzB];rw[tP _ _ _ h]
 |map es cl=>simp only[fzB,B.map.injEq,and_true];exact List.map_congr_left (g:=id) (fun e he=>by rw[N7 _ _ _ (h e he).2];rfl)|>.trans qq4
theorem Hg{n k:Nat}(h:n<=k){b:B}(hb:BelB n b):BelB k b:=by
 cases b with
 |row l e=>exact aG.le h _ hb|vec l e s st=>exact aG.le h _ hb
 |map es cl=>exact fun e he=>⟨aT.le h _ (hb e he).1,aT.le h _ (hb e he).2⟩
variable{sz:Nat}
variable{v12:Type}
variable{e:TypeId}
theorem qt{n0 st:Nat}{c:v12->X U}{xs:X v12}{tm':X U}(hw:oH Y)(hK:Y.nx<=K)(hg:gt H K=some (.bv c xs e sz st))(hs:∀k,k<Y.nx->gt H k=gt Y.h k)(hN:Y.nx<=N)(ht:gU K (.bv c xs e sz st) sz tm=tm')(hb:aG Y.nx tm')(h0:n0<=Y.nx):Gh n0 tm ⟨H,N⟩ tm' Y:=by have h1:Gh n0 tm ⟨H,N⟩ tm' ⟨fzH K (.bv c xs e sz st) sz H,N⟩:=Gh.fz (Y:=⟨H,N⟩) K (.bv c xs e sz st) sz hg nofun ht rfl;refine h1.trans (Gh.back hw (fun k hk=>?_) hN hb h0);rw[AO,if_neg qq0,hs k hk];rcases Ku:gt Y.h k with _|b;rfl;simp only[zM];rw[Hb _ _ (Hg hK (hw k b Ku).2)]
instance(priority:=50){h:X (Nat×B)}{K:Nat}{b:B}:VR h K b (ug h K b):=⟨rfl⟩
section
variable{T:Tb}{n:Nat}{l:X (Nat×U)}{h:X (Nat×B)}{nx nx':Nat}{op:Op}
theorem oAe{c:v12->X U}{x y:Xt}{t xt e1 e2:TypeId}{args:Zu Xt}{ts:Zu TypeId}{a off s1 by_:Nat}{z:Value}{ys:X v12}{b:PE}{q:X U}(ho:op=.call { callee:=.builtin .append,args:=args,argTypes:=ts })(ha:args.toList=[x,y])(ht:ts.toList=[t,xt])(hx:bM n l x=some (.sl a off 0 0))(hy:bM n l y=some (.isl b (ys.map c)))[d1:eF T t (.slice e)][d2:eF T xt (.slice e2)][i:iF T e s1 by_ z][g:eE h a (.row q e1)][lc:fX c s1][hn:SuC nx nx'](hp:Nat.ble 1 s1=true)(hq:Nat.ble off q.length=true)(hz:Nat.beq z.cells.toList.length s1=true)(hr:ys.length*by_<=140737488355328/\ys.length<=140737488355328):bI T ⟨h,nx⟩ (fr n l) op=some (.vl nx 0 0 ys.length,⟨(nx,.bv c ys e s1 0)::h,nx'⟩):=by subst ho;have CN:=hn.h;subst CN;obtain⟨sz,rfl⟩:∃sz,s1=sz+1:=⟨s1-1,by have:=zY hp;omega⟩;exact pQ (Y:=⟨h,nx⟩) ha ht hx hy (YE c ys d1.h d2.h i.h hz (by simp only[rowOf,g.h]) hq (NB c lc.h) hr)
end
theorem WPU.wf{C:PG}{n0:Nat}{c:Code}{tm:X U}{Y:Sg}{Q:Exit->X U->Sg->Prop}(h:oH Y->aG Y.nx tm->WPU C n0 c tm Y Q):WPU C n0 c tm Y Q:=fun hn F x tv m w a b0 hx st hG hd ro eZ=>h (hx ▸ st.h.wf) (hx ▸ st.e.bel) hn F x tv m w a b0 hx st hG hd ro eZ
theorem Gh.first{m st:Nat}{l:X U}(hw:oH Y)(hK:Y.nx<=K)(hN:K<N)(hg:gt H K=some (.vec l e sz st))(hs:∀k,k<Y.nx->gt H k=gt Y.h k)(hb:aG Y.nx l):Gh Y.nx [.vl K st 0 m] ⟨H,N⟩ [.vl Y.nx st 0 m] ⟨(Y.nx,.vec l e sz st)::Y.h,Y.nx+1⟩:=fun F x tv hx hr hf he=>by
 have FL:x.Y.h=H:=by rw[hx]
 have LS:x.Y.nx=N:=by rw[hx]
 let y:Cx:=⟨fun k=>if k=Y.nx then x.I K else x.I k,⟨(Y.nx,.vec l e sz st)::Y.h,Y.nx+1⟩,x.s⟩
 have hnone:∀k,Y.nx<=k->gt Y.h k=none:=fun k hk=>by rcases hq:gt Y.h k with _|b;rfl;have:=(hw k b hq).1;omega
 have hM:Mo Y.nx x y:=⟨fun k hk jS=>⟨Nat.lt_succ_of_lt hk,fun b' cK=>by
  have h1:gt y.Y.h k=gt Y.h k:=by show gt ((Y.nx,_)::Y.h) k=_;rw[aP,if_neg qq0]
  rw[h1,<-hs k hk,<-FL]at cK;exact⟨b',cK,zF _,fun _=>⟨by show(if k=Y.nx then _ else _)=_;rw[if_neg qq0],fun l e sz st h=>⟨l,h⟩⟩⟩⟩,fun _ _ _ h=>h⟩
 have Kx:∀k b,gt y.Y.h k=some b->(k=Y.nx/\b=.vec l e sz st)\/(k<Y.nx/\gt Y.h k=some b):=fun k b hb=>by have hb:gt ((Y.nx,B.vec l e sz st)::Y.h) k=some b:=hb;rw[aP]at hb;by_cases e:Y.nx=k;rw[if_pos e]at hb;cases hb;exact .inl ⟨e.symm,rfl⟩;rw[if_neg e]at hb;exact .inr ⟨(hw k b hb).1,hb⟩
 have wP:∀k,k<Y.nx->y.I k=x.I k:=fun k hk=>by show(if k=Y.nx then _ else _)=_;rw[if_neg qq0]
 have Uw:y.I Y.nx=x.I K:=by show(if Y.nx=Y.nx then _ else _)=_;rw[if_pos rfl]
 refine⟨y,fun m w hf=>bT.refl hf,rfl,⟨fun k b hb0=>?_,fun k k' b b' i hb cK h1 h2=>?_,hr.bd⟩,fun i b O=>?_,?_,hM.ke⟩;rcases Kx k b hb0 with⟨rfl,rfl⟩|⟨hk,hb⟩;refine⟨zN _,?_⟩;obtain⟨_,k1,k2,h3⟩:=hr.ok K _ (by rw[FL];exact hg);refine⟨k1,k2,?_⟩;rw[Uw];rcases h3 with h3 |⟨i,l',e1,e2,e3⟩;exact .inl h3;exact .inr ⟨i,l',e1,e2,hM.ke.E hb e3⟩;refine⟨Nat.lt_succ_of_lt hk,?_⟩;have h0:gt x.Y.h k=some b:=by rw[FL,hs k hk];exact hb
 have uO:=(hw k b hb).2;obtain⟨_,h3⟩:=hr.ok k b h0;cases b with
 |row q e'=>obtain⟨k1,i,l',e1,e2,e3⟩:=h3;exact⟨k1,i,l',by rw[wP k hk];exact e1,e2,hM.ke.E uO e3⟩
 |vec q e' gM bJ=>obtain⟨k1,k2,h3⟩:=h3;refine⟨k1,k2,?_⟩;rw[wP k hk];rcases h3 with h3 |⟨i,l',e1,e2,e3⟩;exact .inl h3;exact .inr ⟨i,l',e1,e2,hM.ke.E uO e3⟩
 |map es cl=>obtain⟨i,es',e1,e2,e3⟩:=h3;refine⟨i,es',by rw[wP k hk];exact e1,e2,e3.1,fun j e he=>?_⟩;obtain⟨v,q1,q2,q3,q4⟩:=e3.2 j e he;have hb2:=uO e (zX he);exact⟨v,q1,hM.ke _ _ hb2.1 q2,hM.ke _ _ hb2.2 q3,q4⟩
 rcases Kx k b hb with⟨rfl,rfl⟩|⟨hk,hb⟩;rcases Kx k' b' cK with⟨rfl,_⟩|⟨rN,cK⟩;rfl;rw[Uw]at h1;rw[wP k' rN]at h2;have:=hr.inj K k' _ _ i (by rw[FL];exact hg) (by rw[FL,hs k' rN];exact cK) h1 h2;omega;rcases Kx k' b' cK with⟨rfl,rfl⟩|⟨rN,cK⟩;rw[Uw]at h2;rw[wP k hk]at h1;have:=hr.inj k K _ _ i (by rw[FL,hs k hk];exact hb) (by rw[FL];exact hg) h1 h2;omega;rw[wP k hk]at h1;rw[wP k' rN]at h2;exact hr.inj k k' _ _ i (by rw[FL,hs k hk];exact hb) (by rw[FL,hs k' rN];exact cK) h1 h2;obtain⟨h1,h2⟩:=hf i b O;refine⟨h1,fun k c hc=>?_⟩;rcases Kx k c hc with⟨rfl,rfl⟩|⟨hk,hb⟩;rw[Uw];exact h2 K _ (by rw[FL];exact hg);rw[wP k hk];exact h2 k _ (by rw[FL,hs k hk];exact hb);obtain⟨v,vs,rfl,h1,h2⟩:=he.inv;have:=h2.nil_inv;subst this;refine bA.cons ?_ (bA.nil y);simp only[aC]at h1 ⊢;obtain⟨k1,k2,k3⟩:=h1;refine⟨k1,zN _,fun b hb=>?_⟩;rcases Kx _ b hb with⟨_,rfl⟩|⟨hk,_⟩;obtain⟨g1,g2⟩:=k3 _ (by rw[FL];exact hg);refine⟨g1,fun h=>?_⟩;rw[Uw];exact g2 h;omega
theorem fN.op{C:PG}{T:Tb}(hT:j0 C.prog T){Y Y':Sg}{tm:X U}{o:Oper}{u:U}(h:bI T Y tm o.op=some (u,Y')):fN C Y tm o (fun u' s'=>u'=u/\s'=Y'):=fun F x tv m w a next Q fH st hG hn ro eZ=>by
 subst fH;exact wH (RG h) (st.op hT o h fun y dJ aL w₁ bD e1 bJ aS iH iR m8=>hn u y dJ aL w₁ bD ⟨rfl,e1⟩ bJ aS iH iR m8)
theorem fN.mono{C:PG}{o:Oper}{R R':U->Sg->Prop}(h:fN C Y tm o R)(hr:∀u s,R u s->R' u s):fN C Y tm o R':=fun F x tv m w a next Q fH st hG hn ro eZ=>h F x tv m w a next Q fH st hG (fun u y dJ aL w₁ bD hR=>hn u y dJ aL w₁ bD (hr _ _ hR)) ro eZ
section
variable{C:PG}{T:Tb}{aA r:X Oper}{o:Oper}{n:Nat}{l:X (Nat×U)}{Y:Sg}{K:X U->Sg->Prop}{R:U->Sg->Prop}
theorem D8{d:Tmp}(he:o.dst=some d)(hs:fN C Y (fr n l) o R)(hk:∀u Y',R u Y'->RU C T aA r (fr n ((d,u)::l)) Y' K)(hw:c8 aA (fr n l) o=some true:=by exact wA)(hd:Nat.blt d n=true:=by exact rfl):RU C T aA (o::r) (fr n l) Y K :=
 .inr (.inr (.inr (.inr ⟨hw,R,hs,fun u Y' h=>by rw[he,sG (d:=some d) u hd];exact hk u Y' h⟩)))
theorem RS.stepn(he:o.dst=none)(hs:fN C Y (fr n l) o R)(hk:∀u Y',R u Y'->RU C T aA r (fr n l) Y' K)(hw:c8 aA (fr n l) o=some true:=by exact wA):RU C T aA (o::r) (fr n l) Y K :=
 .inr (.inr (.inr (.inr ⟨hw,R,hs,fun u Y' h=>by rw[he];exact hk u Y' h⟩)))
end
section
variable{T:Tb}{Y:Sg}{n:Nat}{l:X (Nat×U)}{v w:U}
theorem Fb(c:v12->X U)(ys:X v12){t xt e2:TypeId}{by_ a st off:Nat}{z:Value}{xs W:X v12}(hd:T.und t=some (.slice e))(dL:T.und xt=some (.slice e2))(hi:T.inf e=some (sz+1,by_,z))(hz:Nat.beq z.cells.toList.length (sz+1)=true)(hc:∀x,(c x).length=sz+1)(hg:gt Y.h a=some (.vec (xs.map c).flatten e (sz+1) st))(hx:xs.drop off=W)(ho:off<=xs.length)(h0:off=0\/W≠[])(hy:0<ys.length)(hw:uX Y (sz+1) w=some (ys.length,(ys.map c).flatten))(hr:(W.length+ys.length)*by_<=140737488355328/\W.length+ys.length<=140737488355328):C4 T Y t xt (.vl a st off W.length) w=some (.vl a (st+1) 0 (W++ys).length,⟨ug Y.h a (.vec ((W++ys).map c).flatten e (sz+1) (st+1)),Y.nx⟩):=by
 subst hx;have b1:Nat.beq st st=true:=by simp[beq_eq]
 have b2:Nat.beq e e=true:=by simp[beq_eq]
 have b3:Nat.beq (sz+1) (sz+1)=true:=by simp[beq_eq]
 have hl:∀l:X v12,(l.map c).flatten.length=l.length*(sz+1):=fun l=>DQ hc l;have hs:kY (xs.map c).flatten (off*(sz+1)) ((xs.drop off).length*(sz+1))=some ((xs.drop off).map c).flatten:=by
  have e1:(xs.map c).flatten=((xs.take off).map c).flatten++((xs.drop off).map c).flatten:=by rw[<-List.flatten_append,<-List.map_append,List.take_append_drop]
  have e2:((xs.take off).map c).flatten.length=off*(sz+1):=by rw[hl,List.length_take,Nat.min_eq_left ho]
  unfold kY;rw[if_pos (by rw[e1,zU,e2,hl];omega),e1,<-e2,List.drop_left,zW (by rw[hl];exact zF _)]
 have Wx:0<ys.length/\(off=0\/0<(xs.drop off).length)\/off=0/\(xs.drop off).length*(sz+1)=(xs.map c).flatten.length:=by
  refine .inl ⟨hy,?_⟩;rcases h0 with h0 |h0;exact .inl h0;exact .inr (by cases hq:xs.drop off with
   |nil=>exact absurd hq h0|cons=>simp)
 rw[qv0,zU];simp only[C4,hd,dL,hi,hz,zC,hw,hg,b1,b2,b3,hs,hr.1,hr.2,true_and,Wx,if_true]
end
theorem sX.bp{P:DC}{T:Tb}{n:Nat}{l:X (Nat×U)}{t:TypeId}{b:Nat}{z:Value}{zu cs:X U}{x:Xt}{u:U}(hd:T.und t=some (.slice e))(hi:T.inf e=some (sz,b,z))(hx:bM n l x=some u)(h1:Nat.ble (1*sz) 16777216=true)(h3:Nat.beq z.cells.toList.length sz=true)(hz:pM z.cells.toList=some zu)(hf:qY (fun i=>some (i*sz,sz)) (wD zu 1) [(0,u)]=some cs)(hk:okL cs=true)(hl:cs.length=sz)(hc:∀m,aT m u->aG m cs):sX P T (fr n l) (.buildSlice t 1 #[(0,x)]) (.isl false [cs]):=by refine .inr ⟨1,sz,cs,e,fun Y=>yJ hd hi (show BZ n l [(0,x)]=some [(0,u)] by simp[BZ,hx]) h1 rfl h3 hz hf hk,by omega,fun m hm=>hc m (hm x (by simp[Op.operands]) u (dQ hx)),?_⟩;rw[show bN sz 1 cs=[cs] by simp[bN,<-hl]]
theorem jE{k nx:Nat}{b:B}{h:X (Nat×B)}(hk:k<nx):gt ((nx,b)::h) k=gt h k:=by rw[aP,if_neg qq0]
end Go.Vx
namespace Go.Proofs
open Go Go.Rx Go.Vx Tryz
instance:TbP prog tb:=⟨tb_ok⟩
set_option maxRecDepth 20000
set_option maxHeartbeats 4000000
set_option synthInstance.maxSize 4000
set_option synthInstance.maxHeartbeats 200000
instance:uS tb 95 [.nilp,.int .i64 0] [(0,1),(1,1)]:=⟨vV dt.h if95.h rfl qq1⟩
instance:uS tb 97 [.int .i64 0,.int .i64 0] [(0,1),(1,1)]:=⟨vV dr.h if97.h rfl qq1⟩
instance:uS tb 99 [.nils,.int .i64 0] [(0,1),(1,1)]:=⟨vV dq.h if99.h rfl qq1⟩
instance:uS tb 101 [.bool false,.int .i64 0] [(0,1),(1,1)]:=⟨vV Ng.h Ut.h rfl qq1⟩
instance:uS tb 103 [.int .i64 0,.nils,.nilp,.int .i64 0,.int .i64 0,.int .i64 0,.nils,.int .i64 0,.nilp,.int .i64 0,.bool false,.int .i64 0] [(0,1),(1,1),(2,2),(4,2),(6,2),(8,2),(10,2)]:=⟨vV Nf.h mO.h rfl qq1⟩
instance:uS tb 107 [.int .i64 0,.nilp] [(0,1),(1,1)]:=⟨vV Nd.h CC.h rfl qq1⟩
structure eC where
 f:Int
 to:Nat
structure PN where
 kind:Int
 arcs:X eC
 fw:V Nat
 fwA:Int
 mt:Int
 mtA:Int
 more:X eC
 moA:Int
 cp:V Nat
 cpA:Int
 ch:PE
 chA:Int
abbrev pt(nm:Nat->Nat)(i:Nat):U:=.ptr (nm i) 0 0
def po(nm:Nat->Nat):V Nat->U
 |none=>.nilp|some i=>pt nm i
def bX(nm:Nat->Nat)(a:eC):X U:=[.int .i64 a.f,pt nm a.to]
def oF(nm:Nat->Nat)(x:PN):X U:=[.i6 x.kind,.iM (bX nm) x.arcs,po nm x.fw,.i6 x.fwA,.i6 x.mt,.i6 x.mtA,.iM (bX nm) x.more,.i6 x.moA,po nm x.cp,.i6 x.cpA,.bool x.ch,.i6 x.chA]
instance{nm:Nat->Nat}:fX (bX nm) 2:=⟨fun _=>rfl⟩
theorem getP(Y:Sg)(nm:Nat->Nat)(o:V Nat)(a b:Int):aW prog 71 [.agg [po nm o,.i6 a],.i6 b] Y (fun u Y'=>u=.tup [po nm (cond (a != b) none o),.bool (!(a != b))]/\Y'=Y):=by
 refine aW.wf fun hw hb=>?_;simp only[aG,aT,and_true,true_and]at hb;obtain⟨h,nx⟩:=Y
 haveI:SuC nx (nx+1):=⟨rfl⟩
 rcases o with _ |i
 all_goals
  refine eL 14 xP ?_;refine go ?_;refine eG rfl (fun h1=>?_) (fun h1=>?_);refine go ?_;exact XV hw rfl rfl rfl rfl (fun k hk=>jE hk) (Nat.le_succ _) (by simp[aT,aG]) ⟨by rw[h1];rfl,rfl⟩;refine go ?_;exact XV hw rfl rfl rfl rfl (fun k hk=>jE hk) (Nat.le_succ _) (by simp only[aT,aG,and_true];exact hb) ⟨by rw[h1];rfl,rfl⟩
theorem Xq(Y:Sg)(v a b:Int):aW prog 108 [.agg [.i6 v,.i6 a],.i6 b] Y (fun u Y'=>u=.tup [.i6 (cond (a != b) 0 v),.bool (!(a != b))]/\Y'=Y):=by
 refine aW.wf fun hw hb=>?_;obtain⟨h,nx⟩:=Y
 haveI:SuC nx (nx+1):=⟨rfl⟩
 refine eL 14 JA ?_;refine go ?_;refine eG rfl (fun h1=>?_) (fun h1=>?_);refine go ?_;exact XV hw rfl rfl rfl rfl (fun k hk=>jE hk) (Nat.le_succ _) (by simp[aT,aG]) ⟨by rw[h1];rfl,rfl⟩;refine go ?_;exact XV hw rfl rfl rfl rfl (fun k hk=>jE hk) (Nat.le_succ _) (by simp[aT,aG]) ⟨by rw[h1];rfl,rfl⟩
theorem Dg(Y:Sg)(v:PE)(a b:Int):aW prog 69 [.agg [.bool v,.i6 a],.i6 b] Y (fun u Y'=>u=.tup [.bool (cond (a != b) false v),.bool (!(a != b))]/\Y'=Y):=by
 refine aW.wf fun hw hb=>?_;obtain⟨h,nx⟩:=Y
 haveI:SuC nx (nx+1):=⟨rfl⟩
 refine eL 14 PT ?_;refine go ?_;refine eG rfl (fun h1=>?_) (fun h1=>?_);refine go ?_;exact XV hw rfl rfl rfl rfl (fun k hk=>jE hk) (Nat.le_succ _) (by simp[aT,aG]) ⟨by rw[h1];rfl,rfl⟩;refine go ?_;exact XV hw rfl rfl rfl rfl (fun k hk=>jE hk) (Nat.le_succ _) (by simp[aT,aG]) ⟨by rw[h1];rfl,rfl⟩
theorem PM(Y:Sg)(nm:Nat->Nat)(v:X eC)(a b:Int):aW prog 104 [.agg [.iM (bX nm) v,.i6 a],.i6 b] Y (fun u Y'=>u=.tup [.iM (bX nm) (cond (a != b) [] v),.bool (!(a != b))]/\Y'=Y):=by
 refine aW.wf fun hw hb=>?_;simp only[aG,aT,and_true,true_and]at hb;obtain⟨h,nx⟩:=Y
 haveI:SuC nx (nx+1):=⟨rfl⟩
 refine eL 14 xT ?_;refine go ?_;refine eG rfl (fun h1=>?_) (fun h1=>?_);refine go ?_;refine⟨.inr rfl,_,dT rfl (dT rfl eD),.tup [.isl false [],.bool false],⟨h,nx⟩,zF _,?_,by rw[h1];rfl,rfl⟩;exact(Gh.wk (.cons (.tup (.cons (.nil false) (.cons (.refl _) .nil))) .nil)).trans (Gh.back hw (fun k hk=>jE hk) (Nat.le_succ _) (by simp[aG,aT,kJ]) (zF _));refine go ?_;exact XV hw rfl rfl rfl rfl (fun k hk=>jE hk) (Nat.le_succ _) (by simp only[aT,aG,and_true];exact hb) ⟨by rw[h1];rfl,rfl⟩
variable{nm:Nat->Nat}
theorem XW{o:V Nat}{a b:Int}{t:PE}{v:U}(ht:(a != b)=t)(hv:po nm (cond t none o)=v)(Y:Sg):aW prog 71 [.agg [po nm o,.i6 a],.i6 b] Y (fun u Y'=>u=.tup [v,.bool (!t)]/\Y'=Y):=by subst ht;subst hv;exact getP Y nm o a b
structure PP where
 H:cZ
 N:X PN
 roots:X Nat
 size:Int
 gen:Int
def dW(nm:Nat->Nat)(i:Nat):X U:=[pt nm i]
instance{nm:Nat->Nat}:fX (dW nm) 1:=⟨fun _=>rfl⟩
def rW(kr st:Nat)(P:PP):X U:=[.iM jW P.H.Types,.iM mN P.H.Feats,.vl kr st 0 P.roots.length,.i6 P.size,.i6 P.gen]
def EN(n:Nat):V Nat->Prop
 |none=>True|some i=>i<n
structure kF(n:Nat)(x:PN):Prop where
 arcs:∀a∈x.arcs,a.to<n
 fw:EN n x.fw
 more:∀a∈x.more,a.to<n
 cp:EN n x.cp
structure PH(kp kr st:Nat)(nm:Nat->Nat)(P:PP)(h:X (Nat×B)):Prop where
 pool:gt h kp=some (.row (rW kr st P) 83)
 roots:gt h kr=some (.vec (P.roots.map (dW nm)).flatten 92 1 st)
 node:∀i x,P.N[i]? = some x->gt h (nm i)=some (.row (oF nm x) 103)
 inj:∀i j,i<P.N.length->j<P.N.length->nm i=nm j->i=j
 wf:∀x∈P.N,kF P.N.length x
 rt:∀r∈P.roots,r<P.N.length
def sV(N:X PN)(g:Int):Nat->Nat->V Nat
 |0,_=>none|m+1,p=>a8 N[p]? fun x=>cond (x.fwA != g) (some p) (a8 x.fw fun q=>sV N g m q)
section
variable{kp kr st:Nat}{nm:Nat->Nat}{P:PP}{h:X (Nat×B)}{nx:Nat}
theorem PH.gp(p:PH kp kr st nm P h):eE h kp (.row [.iM jW P.H.Types,.iM mN P.H.Feats,.vl kr st 0 P.roots.length,.i6 P.size,.i6 P.gen] 83):=⟨p.pool⟩
theorem PH.gn(p:PH kp kr st nm P h){i:Nat}{x:PN}(hx:P.N[i]? = some x):eE h (nm i) (.row [.i6 x.kind,.iM (bX nm) x.arcs,po nm x.fw,.i6 x.fwA,.i6 x.mt,.i6 x.mtA,.iM (bX nm) x.more,.i6 x.moA,po nm x.cp,.i6 x.cpA,.bool x.ch,.i6 x.chA] 103):=⟨p.node i x hx⟩
theorem Ox(p:PH kp kr st nm P h)(n:Nat){i r:Nat}(O:sV P.N P.gen n i=some r):aW prog 66 [.ptr kp 0 0,pt nm i] ⟨h,nx⟩ (fun u Y'=>u=pt nm r/\Y'=⟨h,nx⟩):=by
 haveI:=p.gp
 refine eL 23 xR ?_;refine goN ?_;refine gL (fun m tm Y=>∃i,sV P.N P.gen m i=some r/\tm=fr 23 [(0,.ptr kp 0 0),(1,pt nm i)]/\Y=⟨h,nx⟩) (fun _ _=>False) n ⟨i,O,rfl,rfl⟩ (fun _ _ h=>h.elim) ?_ (zF _);rintro(_ |m) _ _ ⟨i,O,rfl,rfl⟩;cases O;obtain⟨x,hx,O⟩:=aI O
 haveI:=p.gn hx
 refine goN ?_;apply cE;refine goN ?_;refine dE [] ?_;refine cM ?_;cases hb:x.fwA != P.gen with
 |true=>rw[hb]at O;obtain rfl:=sI O;refine dK rfl (XW hb rfl) xP ?_;refine cM ?_;refine bC ⟨by kernel_rfl,trivial,?_⟩;refine goN ?_;refine eG rfl (fun h1=>?_) (fun h1=>by cases h1);refine goN ?_;exact C1 rfl rfl rfl (zF _) ⟨rfl,rfl⟩
 |false=>rw[hb]at O;obtain⟨q,hq,O⟩:=aI O;refine dK rfl (XW (v:=pt nm q) hb (by rw[hq];rfl)) xP ?_;refine cM ?_;refine bC ⟨by kernel_rfl,trivial,?_⟩;refine goN ?_;refine eG rfl (fun h1=>by cases h1) (fun h1=>?_);refine goN ?_;exact⟨m,_,_,zN _,⟨q,O,rfl,rfl⟩,zF _,Gh.sub (by((repeat refine⟨rfl,?_⟩);exact trivial))⟩
end
theorem Ht{n:Nat}(l:X eC)(hl:∀a∈l,nm a.to<n):kJ n (l.map (bX nm)):=by rw[Hu];intro c hc;obtain⟨a,ha,rfl⟩:=List.mem_map.1 hc;simp only[bX,pt,aG,aT,and_true,true_and];exact hl a ha
theorem w_(h:X (Nat×B))(nx:Nat)(nm:Nat->Nat)(l:X eC)(hl:l.length<=1000000):aW prog 105 [.iM (bX nm) l] ⟨h,nx⟩ (fun u Y'=>u=.vl nx 0 0 l.length/\Y'=⟨(nx,.bv (bX nm) l 107 2 0)::h,nx+1⟩):=by
 refine aW.wf fun hw hb=>?_
 haveI:SuC nx (nx+1):=⟨rfl⟩
 refine lG 8 D0 ?_;refine goN ?_;refine RS.nilq rfl rfl (by exact eF.h) rfl rfl rfl rfl (fun z hz=>?_);refine goN ?_;refine eG rfl (fun h1=>?_) (fun h1=>?_);have:l=[]:=by have:=hz h1;simpa using this
 subst this;refine goN ?_;exact⟨.inr rfl,_,dT rfl eD,.vl nx 0 0 0,⟨(nx,.vec [] 107 2 0)::h,nx+1⟩,Nat.le_succ _,Gh.nilvec (Y:=⟨h,nx⟩) (tm:=[.nils]) 0 107 2 qq3 (zF _) rfl,rfl,rfl⟩;refine goN ?_
 haveI:SuC (nx+1) (nx+2):=⟨rfl⟩
 refine c5 ?_;refine goN ?_;refine RS.w rfl (oAe (c:=bX nm) (ys:=l) rfl rfl rfl rfl rfl rfl rfl rfl ⟨by omega,by omega⟩) ?_;refine goN ?_;refine⟨.inr rfl,_,dT rfl eD,.vl nx 0 0 l.length,_,?_,Gh.first (Y:=⟨h,nx⟩) (K:=nx+1) (N:=nx+2) hw (Nat.le_succ _) (zN _) (by simp[aP]) (fun k hk=>?_) ?_,rfl,rfl⟩;exact Nat.le_succ _;have hk:k<nx:=hk;rw[aP,if_neg qq0,aP,if_neg qq0];simp only[aG,aT,and_true]at hb;rw[vG];intro u hu;obtain⟨c,hc,hu⟩:=List.mem_flatten.1 hu;exact(vG _ _).1 ((Hu _ _).1 hb c hc) u hu
def gP(g:Int)(x:PN):Int:=cond (x.mtA != g) x.kind x.mt
def gN(g:Int)(x:PN):X eC:=cond (x.moA != g) [] x.more
def bV(g:Int)(x:PN):X eC:=x.arcs++gN g x
section
variable{kp kr st:Nat}{nm:Nat->Nat}{P:PP}{h:X (Nat×B)}{nx:Nat}
variable{i:Nat}
variable{x:PN}
theorem Ow(p:PH kp kr st nm P h)(hx:P.N[i]? = some x):aW prog 70 [.ptr kp 0 0,pt nm i] ⟨h,nx⟩ (fun u Y'=>u=.i6 (gP P.gen x)/\Y'=⟨h,nx⟩):=by
 haveI:=p.gp
 haveI:=p.gn hx
 refine eL 25 xQ ?_;refine goN ?_;refine dE [] ?_;refine cM ?_;refine dK rfl (fun s=>Xq s x.mt x.mtA P.gen) JA ?_;refine cM ?_;refine bC ⟨by kernel_rfl,trivial,?_⟩;refine goN ?_;refine eG rfl (fun h1=>?_) (fun h1=>?_);refine goN ?_;have h2:(x.mtA != P.gen)=false:=by simpa using h1
 exact C1 rfl rfl rfl (zF _) ⟨by rw[gP,h2];rfl,rfl⟩;refine goN ?_;have h2:(x.mtA != P.gen)=true:=by simpa using h1
 exact C1 rfl rfl rfl (zF _) ⟨by rw[gP,h2];rfl,rfl⟩
theorem PH.lt(p:PH kp kr st nm P h)(hw:oH ⟨h,nx⟩)(hi:i<P.N.length):nm i<nx:=(hw _ _ (p.node i _ (List.getElem?_eq_getElem hi))).1
theorem PH.arcsLt(p:PH kp kr st nm P h)(hw:oH ⟨h,nx⟩)(hx:P.N[i]? = some x)(g:Int):∀a∈bV g x,nm a.to<nx:=fun a ha=>by
 have ON:=p.wf x (zX hx);rcases yD.1 ha with ha |ha;exact p.lt hw (ON.arcs a ha);unfold gN at ha;rcases hb:x.moA != g with _|_;rw[hb]at ha;exact p.lt hw (ON.more a ha);rw[hb]at ha;cases ha
theorem rh(p:PH kp kr st nm P h)(hx:P.N[i]? = some x)(hl:(bV P.gen x).length<=1000000):aW prog 72 [.ptr kp 0 0,pt nm i] ⟨h,nx⟩ (fun u Y'=>u=.iM (bX nm) (bV P.gen x)/\Y'=⟨h,nx⟩):=by
 refine aW.wf fun hw _=>?_;have zP:=Ht (nm:=nm) (n:=nx) _ (p.arcsLt hw hx P.gen);rw[bV,zU]at hl
 haveI:=p.gp
 haveI:=p.gn hx
 refine eL 26 EH ?_;refine goN ?_;refine dE [] ?_;refine cM ?_;refine dK rfl (fun s=>PM s nm x.more x.moA P.gen) xT ?_;refine cM ?_;refine bC ⟨by kernel_rfl,trivial,?_⟩;refine goN ?_;refine nF rfl (iA rfl D0 rfl).2 (w_ h nx nm x.arcs qq0) rfl rfl ?_;rintro _ _ ⟨rfl,rfl⟩;refine goN ?_;refine RS.w rfl (oAq (c:=bX nm) (xs:=x.arcs) (ys:=gN P.gen x) rfl rfl rfl rfl rfl rfl rfl rfl ⟨by omega,by omega⟩) ?_;refine goN ?_;refine⟨.inr rfl,_,dT rfl eD,_,⟨h,nx⟩,zF _,qt (c:=bX nm) (xs:=bV P.gen x) (e:=107) (sz:=2) (K:=nx) (st:=1) hw (zF _) (by simp[aP,bV]) (fun k hk=>jE hk) (Nat.le_succ _) (tm':=[.iM (bX nm) (bV P.gen x)]) ?_ (by simp only[aG,aT,and_true];exact zP) (zF _),rfl,rfl⟩;exact congrArg (fun u=>[u]) (GX (c:=bX nm) (sz:=2) (fun _=>rfl) (bV P.gen x) nx 2 107 1)
end
def AA{v12:Type}(q:v12->PE)(l:X v12):Int:=match l.findIdx? q with
 |some i=>(i:Int)|none=>-1
theorem z7o{Y:Sg}{l:X eC}{g:FuncId}{fn:Func}{cap:X U}{q:eC->PE}(Cq:tb.fn g=some fn)(hb:fn.body.isSome=true)(hl:l.length<=1000000)(hg:∀a∈l,aW prog g (.agg (bX nm a)::cap) Y (fun u Y'=>u=.bool (q a)/\Y'=Y)):
  aW prog 102 [.iM (bX nm) l,.fn (.func g) [] cap] Y (fun u Y'=>u=.i6 (AA q l)/\Y'=Y):=by
 refine eL 19 JB ?_;refine goN ?_;refine gL (fun m tm Y'=>∃i:Nat,m=l.length-i/\i<=l.length/\(∀(j:Nat)(a:eC),j<i->l[j]? = some a->q a=false)/\tm=fr 19 [(0,.iM (bX nm) l),(1,.fn (.func g) [] cap),(7,.i6 l.length),(8,.i6 i)]/\Y'=Y) (fun tm Y'=>AA q l= -1/\tm=fr 19 []/\Y'=Y) (l.length-0) ⟨0,rfl,Nat.zero_le _,fun j a hj=>qq0,rfl,rfl⟩ ?_ ?_ (zF _);rintro _ _ ⟨h1,rfl,rfl⟩;refine goN ?_;exact C1 rfl rfl rfl (zF _) ⟨by rw[h1],rfl⟩;rintro m _ _ ⟨i,rfl,hi,eT,rfl,rfl⟩;refine goN ?_;refine eG rfl (fun h1=>?_) (fun h1=>?_)
 ·have lS:i<l.length:=by simpa using h1
  obtain⟨a,ha⟩:∃a,l[i]? = some a:=⟨l[i],List.getElem?_eq_getElem lS⟩;have jX:aB l (i:Int)=some a:=by rw[aB,if_pos ⟨by omega,by omega⟩];simpa using ha
  refine goN ?_;apply cE;refine goN ?_;refine cB jX ?_;refine goN ?_;refine nF rfl (yN rfl rfl Cq hb rfl qq4) (hg a (zX ha)) rfl rfl ?_;rintro _ _ ⟨rfl,rfl⟩;refine goN ?_;refine eG rfl (fun h2=>?_) (fun h2=>?_);refine goN ?_;refine C1 rfl rfl rfl (zF _) ⟨?_,rfl⟩;have:l.findIdx? q=some i:=by rw[List.findIdx?_eq_some_iff_getElem];refine⟨lS,?_,fun j hj=>?_⟩;rw[List.getElem?_eq_getElem lS]at ha;cases ha;exact h2;have:=eT j _ hj (List.getElem?_eq_getElem qq0);simp[this]
  rw[AA,this]
  ·refine goN ?_;have kP:IntKind.i64.wrap ((i:Int)+1)=((i+1:Nat):Int):=by rw[oZ qq0 qq0];rfl
   refine⟨l.length-(i+1),_,_,by omega,⟨i+1,rfl,lS,fun j b hj hb=>?_,rfl,rfl⟩,zF _,Gh.sub ?_⟩;rcases Nat.lt_succ_iff_lt_or_eq.1 hj with hj |rfl;exact eT j b hj hb;rw[ha]at hb;cases hb;exact h2
   ·rw[<-kP];(repeat refine⟨rfl,?_⟩);exact trivial
 refine goN ?_;refine⟨_,_,⟨?_,rfl,rfl⟩,zF _,Gh.sub trivial⟩;have lS:i=l.length:=by have:¬ (i:Int)<l.length:=(by simpa using h1);omega
 have:l.findIdx? q=none:=by rw[List.findIdx?_eq_none_iff];intro a ha;obtain⟨j,hj⟩:=List.getElem?_of_mem ha;exact eT j a (by rw[lS];exact(zG.1 hj).1) hj
 rw[AA,this]
theorem zag{h:X (Nat×B)}{nx K:Nat}{y:eC}(hg:gt h K=some (.row (bX nm y) 107))(a:eC):aW prog 103 (.agg (bX nm a)::[.ptr K 0 0]) ⟨h,nx⟩ (fun u Y'=>u=.bool (a.f==y.f)/\Y'=⟨h,nx⟩):=by
 refine aW.wf fun hw _=>?_;have hK:K<nx:=(hw _ _ hg).1
 haveI:SuC nx (nx+1):=⟨rfl⟩
 haveI:eE ((nx,.row (bX nm a) 107)::h) K (.row [.i6 y.f,pt nm y.to] 107):=⟨by rw[jE hK];exact hg⟩
 refine eL 9 VE ?_;refine goN ?_;exact qz hw rfl rfl rfl (fun k hk=>jE hk) (Nat.le_succ _) (by simp[aT]) ⟨rfl,rfl⟩
end Go.Proofs
namespace Go.Proofs
open Go Go.Rx Go.Vx Tryz
set_option maxRecDepth 20000
set_option maxHeartbeats 4000000
set_option synthInstance.maxSize 4000
set_option synthInstance.maxHeartbeats 200000
def Sc(p1:X Int)(z5:Int):V ((X Int)):=
 a8 (w7 p1 0 z5) fun l6=>some l6
def ZD(p1:X Int):Nat->Int->V ((X Int))
 |0,_=>none|m1+1,z4=>a8 (cond (decide (z4>0)) (a8 (aB p1 (IntKind.i64.wrap (z4-1))) fun mT=>some (mT==0)) (some false)) fun b13=>cond b13 ((ZD p1 m1) (IntKind.i64.wrap (z4-1))) (Sc p1 z4)
def vt(n:Nat)(p1:X Int):V ((X Int)):=
 ZD p1 n (p1.length:Int)
theorem qnx(n:Nat)(p1:X Int)(r:(X Int))(O:vt n p1=some r):cY prog 111 [.isl false (p1.map (cI .u64))] (.isl false (r.map (cI .u64))):=by unfold vt at O;refine lG 21 VA ?_;refine go ?_;refine oG (ZD p1) (fun z4=>[(0,.iM (cI .u64) p1),(3,.i6 z4)]) (fun _=>⟨[],0⟩) (pW (Sc p1) (fun z5=>[(0,.iM (cI .u64) p1),(3,.i6 z5)]) (fun _=>⟨[],0⟩)) O (tX ?_) ?_;intro z5 O;unfold Sc at O;obtain⟨l6,h7,O⟩:=aI O;obtain⟨h8,h9⟩:=xf (cI .u64) .i64 h7;refine go ?_;refine aY (u:=.iM (cI .u64) l6) rfl (L1 rfl MD (MC rfl) (Oc (cI .u64) fU.h (bB lQ.h) (mC .u64) h8 h9)) ?_;exact gx O;intro m1 z4 O;unfold ZD at O;obtain⟨b13,i7,O⟩:=aI O;refine gn ?_;refine nE [(0,.iM (cI .u64) p1),(3,.i6 z4),(15,.bool b13)] ⟨[],0⟩ ?_ ?_;refine gF O ?_ ?_<;>intro lV O;refine go ?_;apply cE;refine go ?_;exact cr O;refine go ?_;exact cq O;refine go ?_;rcases gB i7 with⟨gC,i7⟩|⟨gC,i7⟩;obtain⟨mT,g9,i7⟩:=aI i7;obtain rfl:=sI i7;refine go ?_;refine cB g9 ?_;refine go ?_;exact mS;exact gy i7
def Qu(p1:X Int)(p2:X Int)(n:Nat)(dB:X Int):V ((X Int)):=
 aF ((if(p2.length:Int)<(p1.length:Int)then(p2.length:Int)else(p1.length:Int)).toNat=dB.length) (
 a8 (vt n dB) fun mJ=>some mJ)
def vz(p1:X Int)(p2:X Int)(n:Nat):Nat->Int->(X Int)->V ((X Int))
 |0,_,_=>none|m1+1,z9,l10=>
  cond (decide (z9<(((if(p2.length:Int)<(p1.length:Int)then(p2.length:Int)else(p1.length:Int)).toNat:Nat):Int))) (a8 (aB p1 z9) fun lW=>
   a8 (aB p2 z9) fun KE=>
   a8 (i9 l10 0 ((if(p2.length:Int)<(p1.length:Int)then(p2.length:Int)else(p1.length:Int)).toNat) z9) fun D9=>(vz p1 p2 n m1) (IntKind.i64.wrap (z9+1)) (l10.set z9.toNat (K5 .u64 lW KE))) (Qu p1 p2 n l10)
def Pm(n:Nat)(p1:X Int)(p2:X Int):V ((X Int)):=
 aF (0<=(if(p2.length:Int)<(p1.length:Int)then(p2.length:Int)else(p1.length:Int))/\8*(if(p2.length:Int)<(p1.length:Int)then(p2.length:Int)else(p1.length:Int)).toNat<=281474976710656/\(if(p2.length:Int)<(p1.length:Int)then(p2.length:Int)else(p1.length:Int))<=281474976710656) (
 vz p1 p2 n n 0 (List.replicate (if(p2.length:Int)<(p1.length:Int)then(p2.length:Int)else(p1.length:Int)).toNat 0))
theorem qx3(n:Nat)(p1:X Int)(p2:X Int)(r:(X Int))(O:Pm n p1 p2=some r):cY prog 78 [.isl false (p1.map (cI .u64)),.isl false (p2.map (cI .u64))] (.isl false (r.map (cI .u64))):=by unfold Pm at O;refine eL 33 Yf ?_;obtain⟨h3,O⟩:=c6 O;refine go ?_;refine aY (u:=.i6 (if(p2.length:Int)<(p1.length:Int)then(p2.length:Int)else(p1.length:Int))) rfl (aa rfl rfl rfl rfl rfl rfl rfl) (aY (u:=.sl 0 0 ((if(p2.length:Int)<(p1.length:Int)then(p2.length:Int)else(p1.length:Int)).toNat) ((if(p2.length:Int)<(p1.length:Int)then(p2.length:Int)else(p1.length:Int)).toNat)) (Y':=⟨[(0,.row (List.map (cI .u64) (List.replicate (if(p2.length:Int)<(p1.length:Int)then(p2.length:Int)else(p1.length:Int)).toNat 0)).flatten 213)],1⟩) rfl (Oe (cI .u64) 0 rfl rfl fU.h lQ.h rfl rfl rfl rfl h3) ?_);refine go ?_;refine aY rfl (H5 rfl rfl rfl (z7s fU.h rfl)) ?_;refine go ?_;refine D3 (vz p1 p2 n) (fun z9 _=>[(0,.iM (cI .u64) p1),(1,.iM (cI .u64) p2),(5,.sl 0 0 ((if(p2.length:Int)<(p1.length:Int)then(p2.length:Int)else(p1.length:Int)).toNat) ((if(p2.length:Int)<(p1.length:Int)then(p2.length:Int)else(p1.length:Int)).toNat)),(14,.i6 (((if(p2.length:Int)<(p1.length:Int)then(p2.length:Int)else(p1.length:Int)).toNat:Nat):Int)),(15,.i6 z9)]) (fun _ l10=>⟨[(0,.row (l10.map (cI .u64)).flatten 213)],1⟩) (pW (Qu p1 p2 n) (fun _=>[(5,.sl 0 0 ((if(p2.length:Int)<(p1.length:Int)then(p2.length:Int)else(p1.length:Int)).toNat) ((if(p2.length:Int)<(p1.length:Int)then(p2.length:Int)else(p1.length:Int)).toNat))]) (fun dB=>⟨[(0,.row (dB.map (cI .u64)).flatten 213)],1⟩)) O (tX ?_) ?_;intro dB O;unfold Qu at O;obtain⟨g9,O⟩:=c6 O;refine gn ?_;refine dF (tm':=fr 33 [(5,.iM (cI .u64) dB)]) (Y':=⟨[],1⟩) (Gh.trans (Gh.sub (l':=[(5,.sl 0 0 ((if(p2.length:Int)<(p1.length:Int)then(p2.length:Int)else(p1.length:Int)).toNat) ((if(p2.length:Int)<(p1.length:Int)then(p2.length:Int)else(p1.length:Int)).toNat))]) ⟨rfl,trivial⟩) (Gh.fzS (l':=[(5,.iM (cI .u64) dB)]) (h':=[]) 0 (.row (dB.map (cI .u64)).flatten 213) 1 rfl qq4 (by simp only[fzS,m5,vF,sZ,DL,KY,RM,ND,Y9,YA,YB,RW,H6,Y6,N8,RL,R9,GW,Gg (mC .u64) g9]) (by simp only[fzH,fzB,ug,Nat.beq,zC,zD,m5,vF,sZ,DL,KY,RM,ND,Y9,YA,YB,RW,H6,Y6,N8,RL,R9,GW,Gg (mC .u64) g9]))) NZ ?_;obtain⟨mJ,i7,O⟩:=aI O;refine go ?_;refine aK rfl (pC (qnx n dB mJ i7) _) VA ?_;exact gx O;intro m1 z9 l10 O;unfold vz at O;refine gF O ?_ ?_<;>intro lV O;refine go ?_;apply cE;obtain⟨lW,jK,KE,kE,D9,tU,O⟩:=oM O;refine go ?_;refine dE [] ?_;refine gd ?_;refine dU jK ?_;refine gd ?_;refine dU kE ?_;refine gd ?_;refine aV rfl (yI rfl rfl (am _ _ _) rfl) (aV rfl (dZ rfl rfl (sW fU.h (bB lQ.h) rfl tU)) (Fj (u:=.junk) (Y':=⟨[(0,.row (List.map (cI .u64) (l10.set z9.toNat (K5 .u64 lW KE))).flatten 213)],1⟩) rfl (XT (cI .u64) (bB lQ.h) (mC .u64) rfl rfl rfl rfl rfl rfl tU rfl) rfl ?_));refine bC ⟨by kernel_rfl,trivial,?_⟩;refine go ?_;exact Wn2 O;refine go ?_;exact cq O
def K?: V (Int):=
 some (-1)
def Jt(p1:X oO)(c2:X Int)(f1:oO->(X Int)->V (PE)):Nat->Int->V (Int)
 |0,_=>none|m1+1,z6=>cond (decide (z6<(p1.length:Int))) (a8 (aB p1 z6) fun x8=>a8 (f1 x8 c2) fun nQ=>cond nQ (some z6) ((Jt p1 c2 f1 m1) (IntKind.i64.wrap (z6+1)))) (K?)
def pd(f1:oO->(X Int)->V (PE))(n:Nat)(p1:X oO)(c2:X Int):V (Int):=
 Jt p1 c2 f1 n 0
theorem qah(f1:oO->(X Int)->V (PE))(hf1:∀(a0:oO)(a1:X Int)(r:PE),f1 a0 a1=some r->aW prog 80 [.agg (jW a0),.iptr [.isl false (a1.map (cI .u64))]] ⟨[],0⟩ (fun u _=>u=.bool r/\aT 0 u))(n:Nat)(p1:X oO)(c2:X Int)(r:Int)(O:pd f1 n p1 c2=some r):cY prog 79 [.isl false (p1.map jW),.fn (.func 80) [] [.iptr [.isl false (c2.map (cI .u64))]]] (.int .i64 r):=by unfold pd at O;have hf1S:∀(a0:oO)(a1:X Int)(r:PE),f1 a0 a1=some r->∀Y,aW prog 80 [.agg (jW a0),.iptr [.iM (cI .u64) a1]] Y (fun u Y'=>u=.bool r/\Y'=Y):=fun a0 a1 r h Y=>aW.pure1C (hf1 a0 a1 r h) Y;refine eL 19 v05 ?_;refine go ?_;refine oG (Jt p1 c2 f1) (fun z6=>[(0,.iM jW p1),(1,.fn (.func 80) [] [.iptr [.iM (cI .u64) c2]]),(7,.i6 (p1.length:Int)),(8,.i6 z6)]) (fun _=>⟨[],0⟩) (pK K? [] ⟨[],0⟩) O (rY ?_) ?_;intro O;unfold K? at O;exact gx O;intro m1 z6 O;unfold Jt at O;refine gF O ?_ ?_<;>intro h7 O;refine go ?_;apply cE;obtain⟨x8,h9,nQ,jT,O⟩:=bO O;refine go ?_;refine cB h9 ?_;refine go ?_;refine RS.call (u:=.bool nQ) (args:=[.agg (jW x8),.iptr [.iM (cI .u64) c2]]) rfl (yN rfl rfl Yd rfl rfl (rfl)) (hf1S x8 c2 nQ jT _) rfl rfl ?_;refine gF O ?_ ?_<;>intro g9 O;exact gx O;refine go ?_;exact cr O;refine go ?_;exact Wx0 O
def a?(n:Nat)(p1:X Int)(p2:Int):V (Int):=
 cond (decide (p2<(p1.length:Int))) (a8 (aB p1 p2) fun x4=>some x4) (some 0)
theorem qsk(n:Nat)(p1:X Int)(p2:Int)(r:Int)(O:a? n p1 p2=some r):cY prog 153 [.isl false (p1.map (cI .u64)),.int .i64 p2] (.int .u64 r):=by unfold a? at O;refine eL 13 UP ?_;refine gF O ?_ ?_<;>intro h3 O;obtain⟨x4,h5,O⟩:=aI O;refine go ?_;refine cB h5 ?_;exact gx O;exact gx O
def I?: V (PE):=
 some true
def uo(p1:X Int)(p2:X Int)(n:Nat):Nat->Int->V (PE)
 |0,_=>none|m1+1,z7=>cond (decide (z7<(p1.length:Int))) (a8 (aB p1 z7) fun x9=>a8 (a? n p2 z7) fun qB=>cond ((v06 .u64 x9 qB) != 0) (some false) ((uo p1 p2 n m1) (IntKind.i64.wrap (z7+1)))) (I?)
def Il(n:Nat)(p1:X Int)(p2:X Int):V (PE):=
 uo p1 p2 n n 0
theorem qhd(n:Nat)(p1:X Int)(p2:X Int)(r:PE)(O:Il n p1 p2=some r):cY prog 112 [.isl false (p1.map (cI .u64)),.isl false (p2.map (cI .u64))] (.bool r):=by unfold Il at O;refine eL 21 J9 ?_;refine go ?_;refine oG (uo p1 p2 n) (fun z7=>[(1,.iM (cI .u64) p2),(7,.iM (cI .u64) p1),(8,.i6 (p1.length:Int)),(9,.i6 z7)]) (fun _=>⟨[],0⟩) (pK I? [] ⟨[],0⟩) O (rY ?_) ?_;intro O;unfold I? at O;exact gx O;intro m1 z7 O;unfold uo at O;refine gF O ?_ ?_<;>intro h8 O;refine go ?_;apply cE;obtain⟨x9,gC,O⟩:=aI O;refine go ?_;refine cB gC ?_;obtain⟨qB,g9,O⟩:=aI O;refine go ?_;refine aK rfl (pC (qsk n p2 z7 qB g9) _) UP (aY rfl (yI rfl rfl (qqz _ _ _) rfl) ?_);refine gF O ?_ ?_<;>intro eB O;exact gx O;refine go ?_;exact cr O;refine go ?_;exact Wx0 O
def Qf(n:Nat)(p1:X Int)(p2:X Int):V (PE):=
 a8 (a8 (Il n p1 p2) fun r3=>cond r3 (a8 (Il n p2 p1) fun r6=>some r6) (some false)) fun b8=>some b8
theorem qq7(n:Nat)(p1:X Int)(p2:X Int)(r:PE)(O:Qf n p1 p2=some r):cY prog 81 [.isl false (p1.map (cI .u64)),.isl false (p2.map (cI .u64))] (.bool r):=by unfold Qf at O;refine eL 13 Yc ?_;obtain⟨b8,h9,O⟩:=aI O;refine gr ?_;refine nE [(4,.bool b8)] ⟨[],0⟩ ?_ ?_;exact gx O;obtain⟨r3,h4,h9⟩:=aI h9;refine go ?_;refine aK rfl (pC (qhd n p1 p2 r3 h4) _) J9 ?_;refine go ?_;rcases gB h9 with⟨h5,h9⟩|⟨h5,h9⟩;obtain⟨r6,h7,h9⟩:=aI h9;obtain rfl:=sI h9;refine go ?_;refine aK rfl (pC (qhd n p2 p1 r6 h7) _) J9 ?_;refine go ?_;exact mS;exact gy h9
def Ik(n:Nat)(p1:oO)(c2:X Int):V (PE):=
 a8 (Qf n p1.Code c2) fun r3=>some r3
theorem qoc(n:Nat)(p1:oO)(c2:X Int)(r:PE)(O:Ik n p1 c2=some r):cY prog 80 [.agg (jW p1),.iptr [.isl false (c2.map (cI .u64))]] (.bool r):=by unfold Ik at O;refine eL 8 Yd ?_;obtain⟨r3,h4,O⟩:=aI O;refine go ?_;refine aK rfl (pC (qq7 n p1.Code c2 r3 h4) _) Yc ?_;exact gx O
def L4(n:Nat)(p1:cZ)(p2:Int)(p3:Int):V (Int×PE):=
 a8 (aB p1.Types p2) fun x4=>
 a8 (aB p1.Types p3) fun x6=>
 a8 (Pm n x4.Code x6.Code) fun r8=>cond ((r8.length:Int)==0) (some (0,false)) (a8 (pd (Ik n) n p1.Types r8) fun qB=>cond (decide (qB<0)) (some (0,false)) (some (qB,true)))
theorem qsy(n:Nat)(p1:cZ)(p2:Int)(p3:Int)(r:Int×PE)(O:L4 n p1 p2 p3=some r):cY prog 53 [.agg (gE p1),.int .i64 p2,.int .i64 p3] (.tup [.int .i64 r.1,.bool r.2]):=by unfold L4 at O;refine xU 33 Yo ?_;obtain⟨x4,h5,x6,h7,r8,h9,O⟩:=oM O;refine go ?_;refine dE [(0,13),(1,13),(2,13),(3,13),(4,13),(5,13),(6,13),(7,13),(8,13),(9,13),(10,13),(11,13)] ?_;refine gd ?_;refine dU h5 ?_;refine gd ?_;refine dU h7 ?_;refine gd ?_;refine dK rfl (pC (qx3 n x4.Code x6.Code r8 h9)) Yf ?_;refine eN ?_;refine qM ?_;refine bC ⟨by kernel_rfl,⟨pO sU.h rfl (bB Az.h) rfl rfl rfl,⟨yL GE.h rfl rfl rfl rfl,⟨oD rfl,⟨dZ rfl rfl (Gq jW GE.h (bB I1.h) g? h5 rfl),⟨tj GH.h rfl (bB pB.h) rfl rfl,⟨Of fU.h rfl rfl rfl,⟨pO sU.h rfl (bB Az.h) rfl rfl rfl,⟨yL GE.h rfl rfl rfl rfl,⟨oD rfl,⟨dZ rfl rfl (Gq jW GE.h (bB I1.h) g? h7 rfl),⟨tj GH.h rfl (bB pB.h) rfl rfl,⟨Of fU.h rfl rfl rfl,trivial⟩⟩⟩⟩⟩⟩⟩⟩⟩⟩⟩⟩,?_⟩;refine gF O ?_ ?_<;>intro gC O;refine go ?_;obtain rfl:=sI O;exact y5 rfl rfl rfl rfl rfl;obtain⟨qB,g9,O⟩:=aI O;refine go ?_;refine aY rfl (wh rfl rfl) (aK rfl (vw (qah (Ik n) (qoc n) n p1.Types r8 qB g9) (sC 1 1)) v05 ?_);refine gF O ?_ ?_<;>intro eB O;refine go ?_;obtain rfl:=sI O;exact y5 rfl rfl rfl rfl rfl;refine go ?_;obtain rfl:=sI O;exact y5 rfl rfl rfl rfl rfl
def cW(nm:Nat->Nat)(w:Nat×Nat):X U:=[pt nm w.1,pt nm w.2]
inductive WK(nm:Nat->Nat)(nx:Nat)(W:List (Nat×Nat))(u:U)(H:List (Nat×B)):Prop
 |vl (K st off:Nat) (xs:List (Nat×Nat)) (hu:u=.vl K st off W.length) (hg:gt H K=some (.bv (cW nm) xs 200 2 st)) (hx:xs.drop off=W) (ho:off<=xs.length) (hz:off=0\/W≠[]) (hK:nx<=K)
 |em (hu:u=.isl true []) (hW:W=[])
variable{nm:Nat->Nat}
variable{nx:Nat}
variable{W:X (Nat×Nat)}
variable{u:U}
variable{H:X (Nat×B)}
theorem WK.len{N:Nat}(w:WK nm nx W u H):w6 tb ⟨H,N⟩ 201 u=some (.int .i64 W.length):=by cases w with|vl K st off xs hu hg hx ho hz hK=>subst hu;exact Ac lK.h hg|em hu hW=>subst hu;subst hW;exact om (cW nm) lK.h (xs:=[])
theorem z8x{m:Nat}(h:1<=m):mV m m (some (.int .i64 1)) none=some (1,m,m):=by have h1:sL 1 (m+1)=true:=KS ⟨by omega,by omega⟩;simp[mV,wE,h1]
variable{n:Nat}
theorem WK.cut{C:PG}(hT:j0 C.prog tb){w:Nat×Nat}{N:Nat}{l:X (Nat×U)}{o:Oper}{xo:Xt}(wk:WK nm nx (w::W) u H)(ho:o.op=.slice 201 xo (some (.const (.int .i64 1))) none none)(hx:bM n l xo=some u):
  fN C ⟨H,N⟩ (fr n l) o (fun u' Y'=>∃H' K,Y'=⟨H',N⟩/\WK nm nx W u' H'/\nx<=K/\(∃q s,gt H K=some (.vec q 200 2 s))/\∀k,k≠K->gt H' k=gt H k):=by
 cases wk with|em hu hW=>cases hW|vl K st off xs hu hg hxs ho' hz hK=>
 subst hu;have aQ:xs.length=off+(W.length+1):=by have:=congrArg List.length hxs;rw[List.length_drop]at this;simp at this;omega
 have CT:(xs.map (cW nm)).flatten.length=xs.length*2:=DQ (c:=cW nm) (fun _=>rfl) xs;have CU:xs.drop (off+1)=W:=by have:=congrArg List.tail hxs;simpa[List.tail_drop]using this
 cases W with
 |nil=>refine(fN.cut0 hT ho lK.h (bB rF.h) (dQ hx) rfl hg (by rw[CT];simp at aQ;omega)).mono ?_;rintro u' s (⟨rfl,rfl⟩|⟨rfl,rfl⟩);exact⟨_,K,rfl,.vl K (st+1) 0 [] rfl (by rw[bS,if_pos rfl,hg];rfl) rfl (zF _) (.inl rfl) hK,hK,⟨_,_,hg⟩,fun k hk=>by rw[bS,if_neg (Ne.symm hk)]⟩;exact⟨_,K,rfl,.em rfl rfl,hK,⟨_,_,hg⟩,fun k hk=>rfl⟩
 |cons w2 W=>
  have sM:bI tb ⟨H,N⟩ (fr n l) o.op=some (.vl K st (off+1) (w2::W).length,⟨H,N⟩):=by rw[ho];refine L1 hx rfl rfl ?_;have:=Ln (Y:=⟨H,N⟩) (cW nm) lK.h (bB rF.h) (fun _=>rfl) (K:=K) (st:=st) (off:=off) (m:=(w::w2::W).length) (xs:=xs) (e':=200) (by simp[oA,hg,B.bv]) (by simp at aQ ⊢;omega) (z8x qq4);rw[this];simp
  refine(fN.op hT sM).mono ?_;rintro u' s ⟨rfl,rfl⟩;exact⟨H,K,rfl,.vl K st (off+1) xs rfl hg CU (by simp at aQ;omega) (.inr qq4) hK,hK,⟨_,_,hg⟩,fun k hk=>rfl⟩
def OI(g:Int)(p:Nat)(mine:X eC):X eC->X (Nat×Nat)->X PN->V (X (Nat×Nat)×X PN)
 |[],W,N=>some (W,N)|y::ys,W,N=>cond (decide (AA (fun z=>z.f==y.f) mine>=0)) (a8 (aB mine (AA (fun z=>z.f==y.f) mine)) fun z=>aF (W.length<=1000000) (OI g p mine ys (W++[(z.to,y.to)]) N)) (a8 N[p]? fun x=>aF ((gN g x).length<=1000000) (OI g p mine ys W (N.set p { x with more:=gN g x++[y],moA:=g })))
def JX(H:cZ)(g:Int)(n:Nat):Nat->X (Nat×Nat)->X PN->V (PE×X PN)
 |0,_,_=>none|_+1,[],N=>some (true,N)
 |m+1,w::W,N=>
  a8 (sV N g n w.1) fun p=>
  a8 (sV N g n w.2) fun q=>cond (Nat.beq p q) (JX H g n m W N) (a8 N[p]? fun x=>
   a8 N[q]? fun y=>
   a8 (L4 n H (gP g x) (gP g y)) fun r=>cond (!r.2) (some (false,N)) (aF ((bV g x).length<=1000000/\(bV g y).length<=1000000) (a8 (OI g p (bV g x) (bV g y) W N) fun s=>
    a8 s.2[p]? fun x1=>
    a8 (s.2.set p { x1 with mt:=r.1,mtA:=g })[q]? fun y1=>
    JX H g n m s.1 ((s.2.set p { x1 with mt:=r.1,mtA:=g }).set q { y1 with fw:=some p,fwA:=g }))))
section
variable{kp kr st:Nat}{nm:Nat->Nat}{P:PP}{h:X (Nat×B)}{nx:Nat}
variable{i:Nat}
variable{x:PN}
theorem PH.upd(p:PH kp kr st nm P h){y:PN}(hx:P.N[i]? = some x)(hy:kF P.N.length y)(h1:gt H (nm i)=some (.row (oF nm y) 103))(h2:∀k b,gt h k=some b->k≠nm i->gt H k=some b):PH kp kr st nm { P with N:=P.N.set i y } H:=by
 have hi:i<P.N.length:=(zG.1 hx).1;have hn:=p.node i x hx;refine⟨h2 _ _ p.pool fun e=>?_,h2 _ _ p.roots fun e=>?_,fun j z hz=>?_,fun a b ha hb=>p.inj a b (by simpa using ha) (by simpa using hb),fun z hz=>?_,fun r hr=>by simpa using p.rt r hr⟩;have:=p.pool;rw[e,hn]at this;simp at this;have:=p.roots;rw[e,hn]at this;cases this;rw[List.getElem?_set]at hz;by_cases e:i=j;subst e;rw[if_pos rfl,if_pos hi]at hz;cases hz;exact h1;rw[if_neg e]at hz;have hj:j<P.N.length:=(zG.1 hz).1;exact h2 _ _ (p.node j z hz) fun e2=>e (p.inj i j hi hj e2.symm);have aQ:(P.N.set i y).length=P.N.length:=by simp
 show kF (P.N.set i y).length z;rw[aQ];rcases List.mem_or_eq_of_mem_set hz with hz |rfl;exact p.wf z hz;exact hy
theorem PH.keep(p:PH kp kr st nm P h){K:Nat}{q:X U}{s:Nat}(hK:gt h K=some (.vec q 200 2 s))(h2:∀k b,gt h k=some b->k≠K->gt H k=some b):PH kp kr st nm P H:=by
 have cR:∀k b,gt h k=some b->(∀q s,b≠.vec q 200 2 s)->gt H k=some b:=fun k b hb hn=>h2 k b hb fun e=>by rw[e,hK]at hb;cases hb;exact hn _ _ rfl
 exact⟨cR _ _ p.pool qq4,cR _ _ p.roots (by simp[dW]),fun i x hx=>cR _ _ (p.node i x hx) qq4,p.inj,p.wf,p.rt⟩
theorem PH.put(p:PH kp kr st nm P h)(y:PN)(hx:P.N[i]? = some x)(hy:kF P.N.length y):PH kp kr st nm { P with N:=P.N.set i y } (ug h (nm i) (.row (oF nm y) 103)):=
 p.upd hx hy (by rw[bS,if_pos rfl,p.node i x hx];rfl) fun k b hb hk=>by rw[bS,if_neg (Ne.symm hk)];exact hb
theorem WK.keep{nx:Nat}(w:WK nm nx W u h)(h2:∀k q s,gt h k=some (.vec q 200 2 s)->gt H k=some (.vec q 200 2 s)):WK nm nx W u H:=by cases w with|vl K st off xs hu hg hx ho hz hK=>exact .vl K st off xs hu (h2 _ _ _ hg) hx ho hz hK|em hu hW=>exact .em hu hW
theorem WK.put(p:PH kp kr st nm P h){HI:Nat}(w:WK nm HI W u h)(hx:P.N[i]? = some x)(b:B):WK nm HI W u (ug h (nm i) b):=
 w.keep fun k q s hk=>by rw[bS,if_neg fun e=>?_];exact hk;rw[<-e,p.node i x hx]at hk;cases hk
theorem PH.more(p:PH kp kr st nm P h)(h2:∀k b,gt h k=some b->gt H k=some b):PH kp kr st nm P H :=
 ⟨h2 _ _ p.pool,h2 _ _ p.roots,fun i x hx=>h2 _ _ (p.node i x hx),p.inj,p.wf,p.rt⟩
theorem NA{g:Int}(w:kF n x):∀a∈bV g x,a.to<n:=fun a ha=>by
 rcases yD.1 ha with ha |ha;exact w.arcs a ha;unfold gN at ha;rcases hb:x.moA != g with _|_;rw[hb]at ha;exact w.more a ha;rw[hb]at ha;cases ha
theorem ip{g:Int}(w:kF n x):∀a∈gN g x,a.to<n:=fun a ha=>NA (g:=g) w a (yD.2 (.inr ha))
theorem Gu{nm:Nat->Nat}{M:Nat}(hn:∀k,k<n->nm k<M):∀{o:V Nat},EN n o->aT M (po nm o)
 |none,_=>trivial|some i,h=>hn i h
theorem WK.bel{nx:Nat}{M:Nat}(w:WK nm nx W u h)(hw:oH ⟨h,M⟩):aT M u:=by cases w with|vl K st off xs hu hg hx ho hz hK=>subst hu;exact(hw K _ hg).1|em hu hW=>subst hu;simp[aT,kJ]
theorem jv{N:X PN}{g:Int}:∀{n i r:Nat},sV N g n i=some r->∃x,N[r]? = some x
 |0,_,_,h=>by cases h
 |n+1,i,r,h=>by
  obtain⟨x,hx,h⟩:=aI h;cases hb:x.fwA != g with
  |true=>rw[hb]at h;obtain rfl:=sI h;exact⟨x,hx⟩
  |false=>rw[hb]at h;obtain⟨q,_,h⟩:=aI h;exact jv h
theorem WB(p:PH kp kr st nm P h)(n:Nat){a b:Nat}{r:PE×X PN}(O:JX P.H P.gen n n [(a,b)] P.N=some r):
  aW prog 65 [.ptr kp 0 0,pt nm a,pt nm b] ⟨h,nx⟩ (fun u Y'=>∃H N,u=.bool r.1/\Y'=⟨H,N⟩/\PH kp kr st nm { P with N:=r.2 } H/\r.2.length=P.N.length/\nx<=N/\∀k,k<nx->(∀i,i<P.N.length->nm i≠k)->gt H k=gt h k):=by
 refine aW.wf fun tA _=>?_;refine xU 129 Yj ?_;refine goN ?_;refine RS.w (u:=.agg [pt nm a,pt nm b]) rfl (YG (qs:=[(0,pt nm a),(1,pt nm b)]) rfl qq1) ?_;refine goN ?_;refine RS.step (u:=.vl nx 0 0 1) (Y':=⟨(nx,.bv (cW nm) [(a,b)] 200 2 0)::h,nx+1⟩) rfl ?_ rfl rfl ?_;exact fN.bslv (k:=1) (cs:=(List.map (cW nm) [(a,b)]).flatten) tb_ok rfl lK.h rF.h rfl rfl rfl rfl rfl rfl rfl rfl;refine goN ?_;have p0:PH kp kr st nm P ((nx,.bv (cW nm) [(a,b)] 200 2 0)::h):=p.more fun k b hb=>by rw[jE (tA k b hb).1];exact hb
 refine gL (fun m tm Y=>∃W N uw H N1,JX P.H P.gen n m W N=some r/\tm=fr 129 [(0,.ptr kp 0 0),(7,uw)]/\Y=⟨H,N1⟩/\PH kp kr st nm { P with N:=N } H/\WK nm nx W uw H/\N.length=P.N.length/\nx<=N1/\∀k,k<nx->(∀i,i<P.N.length->nm i≠k)->gt H k=gt h k)
  (fun tm Y=>tm=fr 129 []/\r.1=true/\∃H N1,Y=⟨H,N1⟩/\PH kp kr st nm { P with N:=r.2 } H/\r.2.length=P.N.length/\nx<=N1/\∀k,k<nx->(∀i,i<P.N.length->nm i≠k)->gt H k=gt h k) n
  ⟨[(a,b)],P.N,.vl nx 0 0 1,_,_,O,rfl,rfl,p0,.vl nx 0 0 [(a,b)] rfl (by simp[aP]) rfl (Nat.zero_le _) (.inl rfl) (zF _),rfl,Nat.le_succ _,fun k hk _=>jE hk⟩ ?_ ?_ (Nat.le_succ _)
 rintro _ _ ⟨rfl,h1,H,N1,rfl,h2,h3,h4,h5⟩;refine goN ?_;exact C1 rfl rfl rfl h4 ⟨H,N1,by rw[h1],rfl,h2,h3,h4,h5⟩;rintro(_ |m) _ _ ⟨W,N,uw,H,N1,O,rfl,rfl,hp,Bf,aQ,iR,fG⟩;cases O;refine goN ?_;refine RS.w rfl (H5 rfl rfl rfl Bf.len) ?_;refine goN ?_;cases W with
 |nil=>obtain rfl:=sI O;refine eG rfl (fun h1=>by cases h1) (fun h1=>?_);refine goN ?_;exact⟨_,_,⟨rfl,rfl,H,N1,rfl,hp,aQ,iR,fG⟩,iR,Gh.sub trivial⟩
 |cons w W=>
 cases Bf with|em hu hW=>cases hW|vl K bJ off xs hu hg hx ho hz hK=>
 subst hu;have qK:i9 xs off (w::W).length 0=some w:=by rw[i9,if_pos ⟨by omega,by simp⟩];have:=congrArg (fun l=>l[0]?) hx;simpa using this
 have hv:oA ⟨H,N1⟩ K bJ=some ((xs.map (cW nm)).flatten,200,2):=by simp[oA,hg,B.bv]
 have Cc:live ⟨H,N1⟩ K bJ=true:=by simp[live,hg,B.bv,B.st]
 refine eG rfl (fun h1=>?_) (fun h1=>by simp at h1);obtain⟨i,hi,j,hj,O⟩:=bO O;refine goN ?_;apply cE;refine goN ?_;refine dE [] ?_;refine cM ?_;refine aV rfl (dZ rfl rfl (TJ (cW nm) lK.h (bB rF.h) qq3 (fun _=>rfl) hv qK)) ?_;refine aV (u:=.ptr K bJ (off*2+(0:Int).toNat*2+0)) rfl (dZ rfl rfl (Ge QQ.h (bB iO.h) Cc ⟨by decide,by decide⟩ rfl)) ?_;refine aV (u:=pt nm w.1) rfl (F7 (cW nm) gW.h rfl (fun _=>rfl) rfl hg qK rfl) (RD.call rfl (iA rfl xR rfl).2 (Ox hp n hi) rfl rfl ?_);refine cM ?_;refine aV rfl (dZ rfl rfl (TJ (cW nm) lK.h (bB rF.h) qq3 (fun _=>rfl) hv qK)) ?_;refine aV (u:=.ptr K bJ (off*2+(0:Int).toNat*2+1)) rfl (dZ rfl rfl (Ge QQ.h (bB iO.h) Cc ⟨by decide,by decide⟩ rfl)) ?_;refine aV (u:=pt nm w.2) rfl (F7 (cW nm) gW.h rfl (fun _=>rfl) rfl hg qK rfl) (RD.call rfl (iA rfl xR rfl).2 (Ox hp n hj) rfl rfl ?_);refine cM ?_;refine bC ⟨by kernel_rfl,trivial,?_⟩;refine goN ?_;refine D8 rfl (WK.cut tb_ok (.vl K bJ off xs rfl hg hx ho hz hK) rfl rfl) ?_;rintro uw _ ⟨H',K',rfl,Bf,hK',⟨q',s',gl⟩,nW⟩;have uF:=hp.keep gl (fun k b hb hk=>by rw[nW k hk];exact hb);have Cp:∀k,k<nx->(∀i,i<P.N.length->nm i≠k)->gt H' k=gt h k:=fun k hk hn=>by rw[nW k qq0,fG k hk hn]
 clear fG nW gl hg hx ho hz qK hv Cc hp;obtain⟨x,hx⟩:=jv hi;obtain⟨y,hy⟩:=jv hj;have lS:i<N.length:=(zG.1 hx).1;have iD:j<N.length:=(zG.1 hy).1;have xK:Nat.beq (nm i) (nm j)=Nat.beq i j:=by rw[beq_eq,beq_eq];by_cases e:i=j;simp[e];have:nm i≠nm j:=fun h=>e (uF.inj i j lS iD h);simp[e,this]
 refine goN ?_;refine D8 rfl (fN.peq tb_ok rfl (.inl rfl) gW.h (bB mO.h) (dQ rfl) (dQ rfl) (uF.node i x hx) (uF.node j y hy)) ?_;rintro _ _ ⟨rfl,rfl⟩;refine goN ?_;refine eG rfl (fun h2=>?_) (fun h2=>?_)
 ·rw[if_pos rfl,xK]at h2;rw[h2]at O;refine goN ?_;exact⟨m,_,_,zN _,⟨W,N,uw,H',N1,O,rfl,rfl,uF,Bf,aQ,iR,Cp⟩,iR,Gh.sub (by((repeat refine⟨rfl,?_⟩);exact trivial))⟩
 rw[if_pos rfl,xK]at h2;rw[h2]at O;obtain⟨x',vL,O⟩:=aI O;rw[hx]at vL;cases vL;obtain⟨y',qJ,O⟩:=aI O;rw[hy]at qJ;cases qJ;obtain⟨r1,hr1,O⟩:=aI O
 haveI:=uF.gp
 refine goN ?_;refine dE [] ?_;refine cM ?_;refine RD.call rfl (iA rfl xQ rfl).2 (Ow uF hx) rfl rfl ?_;refine cM ?_;refine RD.call rfl (iA rfl xQ rfl).2 (Ow uF hy) rfl rfl ?_;refine cM ?_;refine dK rfl (pC (qsy n P.H _ _ r1 hr1)) Yo ?_;refine cM ?_;refine bC ⟨by kernel_rfl,trivial,?_⟩;refine goN ?_;refine eG rfl (fun h3=>?_) (fun h3=>?_);rw[h3]at O;obtain rfl:=sI O;refine goN ?_;exact C1 rfl rfl rfl iR ⟨H',N1,rfl,rfl,uF,aQ,iR,Cp⟩;rw[h3]at O;obtain⟨⟨FR,OS⟩,O⟩:=c6 O;obtain⟨s,hs,O⟩:=aI O;have pz:∀a∈bV P.gen y,a.to<P.N.length:=by rw[<-aQ];exact NA (uF.wf y (zX hy))
 refine goN ?_;refine aK rfl (rh uF hx FR) EH ?_;refine goN ?_;refine aK rfl (rh uF hy OS) EH ?_;refine goN ?_;refine gL (fun m tm Y=>∃(t:Nat)(W1:X (Nat×Nat))(N2:X PN)(GB:U)(H1:X (Nat×B))(M1:Nat),m=(bV P.gen y).length-t/\t<=(bV P.gen y).length/\OI P.gen i (bV P.gen x) ((bV P.gen y).drop t) W1 N2=some s/\tm=fr 129 [(0,.ptr kp 0 0),(7,GB),(8,pt nm i),(9,pt nm j),(10,.i6 r1.1),(12,.iM (bX nm) (bV P.gen x)),(63,.iM (bX nm) (bV P.gen y)),(64,.i6 (bV P.gen y).length),(65,.i6 t)]/\Y=⟨H1,M1⟩/\PH kp kr st nm { P with N:=N2 } H1/\WK nm nx W1 GB H1/\N2.length=P.N.length/\nx<=M1/\∀k,k<nx->(∀i,i<P.N.length->nm i≠k)->gt H1 k=gt h k)
  (fun tm Y=>∃(GB:U)(H1:X (Nat×B))(M1:Nat),tm=fr 129 [(0,.ptr kp 0 0),(7,GB),(8,pt nm i),(9,pt nm j),(10,.i6 r1.1)]/\Y=⟨H1,M1⟩/\PH kp kr st nm { P with N:=s.2 } H1/\WK nm nx s.1 GB H1/\s.2.length=P.N.length/\nx<=M1/\∀k,k<nx->(∀i,i<P.N.length->nm i≠k)->gt H1 k=gt h k) (bV P.gen y).length
  ⟨0,W,N,uw,H',N1,rfl,Nat.zero_le _,hs,rfl,rfl,uF,Bf,aQ,iR,Cp⟩ ?_ ?_ iR
 ·rintro _ _ ⟨GB,H1,M1,rfl,rfl,nA,B5,mP,wY,xG⟩;obtain⟨x1,Bd,y1,Bc,O⟩:=bO O
  haveI:=nA.gp
  haveI:=nA.gn Bd
  refine goN ?_;have fM:=nA.wf x1 (zX Bd);have nL:=nA.put { x1 with mt:=r1.1,mtA:=P.gen } Bd ⟨fM.arcs,fM.fw,fM.more,fM.cp⟩;have Ux:=WK.put nA B5 Bd (.row (oF nm { x1 with mt:=r1.1,mtA:=P.gen }) 103);change RU _ _ _ _ _ (Sg.mk (ug H1 (nm i) (.row (oF nm { x1 with mt:=r1.1,mtA:=P.gen }) 103)) M1) _
  haveI:=nL.gp
  haveI:=nL.gn Bc
  refine goN ?_;have mF:=nL.wf y1 (zX Bc);have Bv:=nL.put { y1 with fw:=some i,fwA:=P.gen } Bc ⟨mF.arcs,by show i<_;simp;rw[mP,<-aQ];exact lS,mF.more,mF.cp⟩;have hwk3:=WK.put nL Ux Bc (.row (oF nm { y1 with fw:=some i,fwA:=P.gen }) 103);refine⟨m,_,_,zN _,⟨s.1,_,GB,_,M1,O,rfl,rfl,Bv,hwk3,by simp[mP],wY,fun k hk hn=>?_⟩,wY,Gh.sub (by((repeat refine⟨rfl,?_⟩);exact trivial))⟩;rw[bS,if_neg (hn j (by rw[<-aQ];exact iD)),bS,if_neg (hn i (by rw[<-aQ];exact lS))];exact xG k hk hn
 rintro _ _ _ ⟨t,W1,N2,GB,H1,M1,rfl,ht,cJ,rfl,rfl,nA,B5,mP,wY,xG⟩;refine goN ?_;refine eG rfl (fun h4=>?_) (fun h4=>?_)
 ·have eW:t<(bV P.gen y).length:=by simpa using h4
  obtain⟨ya,Bb⟩:∃a,(bV P.gen y)[t]? = some a:=⟨_,List.getElem?_eq_getElem eW⟩;have jX:aB (bV P.gen y) (t:Int)=some ya:=by rw[aB,if_pos ⟨by omega,by omega⟩];simpa using Bb
  have vP:(bV P.gen y).drop t=ya::(bV P.gen y).drop (t+1):=by rw[List.drop_eq_getElem_cons eW];rw[List.getElem?_eq_getElem eW]at Bb;cases Bb;rfl
  rw[vP]at cJ;refine WPU.wf fun fM bj=>?_
  haveI:SuC M1 (M1+1):=⟨rfl⟩
  haveI:SuC (M1+1) (M1+2):=⟨rfl⟩
  refine goN ?_;apply cE;refine goN ?_;refine cB jX ?_;refine goN ?_;refine RS.w rfl (wh rfl rfl) ?_;refine aK rfl (z7o VE rfl FR (fun a _=>zag (y:=ya) (by simp[aP]) a)) JB ?_;refine goN ?_;have hH:∀k b,gt H1 k=some b->gt ((M1,.row (bX nm ya) 107)::H1) k=some b:=fun k b hb=>by rw[jE (fM k b hb).1];exact hb
  have nL:=nA.more hH;have Ux:=B5.keep fun k q s hk=>hH k _ hk;change cond (decide (AA (fun z=>z.f==ya.f) (bV P.gen x)>=0)) _ _=some s at cJ;refine eG rfl (fun h5=>?_) (fun h5=>?_)
  ·rw[h5]at cJ;obtain⟨z,hz,cJ⟩:=aI cJ;obtain⟨hWl,cJ⟩:=c6 cJ;refine goN ?_;cases B5 with
   |vl K bJ off xs hu hg hx ho hz0 hK=>
    subst hu;have hKM:K<M1:=(fM K _ hg).1;have uL:gt ((M1+1,.row [pt nm z.to,pt nm ya.to] 200)::(M1,.row (bX nm ya) 107)::H1) K=some (.vec (xs.map (cW nm)).flatten 200 2 bJ):=by rw[aP,if_neg qq0,aP,if_neg qq0];exact hg
    refine dE [(0,9)] ?_;refine cM ?_;refine dU hz ?_;refine cM ?_;refine aV (u:=.agg [pt nm z.to,pt nm ya.to]) rfl (YG (qs:=[(0,pt nm z.to),(1,pt nm ya.to)]) rfl qq1) ?_;refine eN ?_;refine RD.act rfl (pQ rfl rfl rfl rfl (Fb (cW nm) [(z.to,ya.to)] lK.h lK.h rF.h rfl (fun _=>rfl) uL hx ho hz0 qq4 (FE (cW nm) [(z.to,ya.to)] (q:=[pt nm z.to,pt nm ya.to]) (by simp[rowOf,aP]) rfl rfl rfl) ⟨by simp;omega,by simp;omega⟩)) rfl rfl ?_;refine cM ?_;refine bC ⟨by kernel_rfl,⟨oD rfl,trivial⟩,?_⟩;refine goN ?_;refine⟨(bV P.gen y).length-(t+1),_,_,by omega,⟨t+1,W1++[(z.to,ya.to)],N2,.vl K (bJ+1) 0 (W1++[(z.to,ya.to)]).length,_,M1+2,rfl,eW,cJ,rfl,rfl,?_,?_,mP,by omega,?_⟩,by show nx<=M1+2;omega,Gh.sub ?_⟩;refine nA.keep hg fun k b hb hk=>?_;have:k<M1:=(fM k b hb).1;rw[bS,if_neg (Ne.symm hk),aP,if_neg qq0,aP,if_neg qq0];exact hb;exact .vl K (bJ+1) 0 (W1++[(z.to,ya.to)]) rfl (by rw[bS,if_pos rfl,uL];rfl) rfl (Nat.zero_le _) (.inl rfl) hK;intro k hk hn;rw[bS,if_neg qq0,aP,if_neg qq0,aP,if_neg qq0];exact xG k hk hn
    ·have kP:IntKind.i64.wrap ((t:Int)+1)=((t+1:Nat):Int):=by rw[oZ qq0 qq0];rfl
     rw[<-kP];(repeat refine⟨rfl,?_⟩);exact trivial
   |em hu hW=>
    subst hu;subst hW
    haveI:SuC (M1+2) (M1+3):=⟨rfl⟩
    refine dE [(0,9)] ?_;refine cM ?_;refine dU hz ?_;refine cM ?_;refine aV (u:=.agg [pt nm z.to,pt nm ya.to]) rfl (YG (qs:=[(0,pt nm z.to),(1,pt nm ya.to)]) rfl qq1) ?_;refine eN ?_;refine RD.act rfl (pQ rfl rfl rfl rfl (z3y (cW nm) [(z.to,ya.to)] lK.h lK.h rF.h rfl (FE (cW nm) [(z.to,ya.to)] (q:=[pt nm z.to,pt nm ya.to]) (by simp[rowOf,aP]) rfl rfl rfl) qq4 ⟨by simp,by simp⟩)) rfl rfl ?_;refine cM ?_;refine bC ⟨by kernel_rfl,⟨oD rfl,trivial⟩,?_⟩;refine goN ?_;refine⟨(bV P.gen y).length-(t+1),_,_,by omega,⟨t+1,[]++[(z.to,ya.to)],N2,.vl (M1+2) 0 0 ([]++[(z.to,ya.to)]).length,_,M1+3,rfl,eW,cJ,rfl,rfl,?_,?_,mP,by omega,?_⟩,by show nx<=M1+3;omega,Gh.sub ?_⟩;refine nA.more fun k b hb=>?_;have:k<M1:=(fM k b hb).1;show gt ((M1+2,_)::(M1+1,_)::(M1,_)::H1) k=some b;rw[aP,if_neg qq0,aP,if_neg qq0,aP,if_neg qq0];exact hb;exact .vl (M1+2) 0 0 [(z.to,ya.to)] rfl (by simp[newU,aP]) rfl (Nat.zero_le _) (.inl rfl) qq0;intro k hk hn;show gt ((M1+2,_)::(M1+1,_)::(M1,_)::H1) k=_;rw[aP,if_neg qq0,aP,if_neg qq0,aP,if_neg qq0];exact xG k hk hn
    ·have kP:IntKind.i64.wrap ((t:Int)+1)=((t+1:Nat):Int):=by rw[oZ qq0 qq0];rfl
     rw[<-kP];(repeat refine⟨rfl,?_⟩);exact trivial
  ·rw[h5]at cJ;obtain⟨x2,wQ,cJ⟩:=aI cJ;obtain⟨uI,cJ⟩:=c6 cJ
   haveI:=nL.gp
   haveI:=nL.gn wQ
   refine goN ?_;refine dE [] ?_;refine cM ?_;refine dK rfl (fun s=>PM s nm x2.more x2.moA P.gen) xT ?_;refine cM ?_;refine bC ⟨by kernel_rfl,trivial,?_⟩;refine goN ?_;have hN:∀k,k<P.N.length->nm k<M1:=fun k hk=>(fM _ _ (nA.node k _ (List.getElem?_eq_getElem (by show k<N2.length;omega)))).1;have tC:kp<M1:=(fM _ _ nA.pool).1;have CM:=hN i qq0;have nq:∀{a b:Nat},b<a->Nq a b:=fun h=>⟨by rw[beq_eq];simp;omega⟩
   haveI:Nq M1 kp:=nq tC
   haveI:Nq (M1+1) kp:=nq qq0
   haveI:Nq M1 (nm i):=nq CM
   haveI:Nq (M1+1) (nm i):=nq qq0
   haveI:Nq (M1+1) M1:=nq qq0
   haveI:=nA.gp
   haveI:=nA.gn wQ
   refine dE [(0,2),(0,5),(3,2),(6,2),(6,5),(7,2),(7,5),(8,2),(8,5),(9,2),(9,5)] ?_;refine cM ?_;refine JW rfl (iA rfl D0 rfl).2 (w_ _ _ nm (gN P.gen x2) uI) rfl rfl ?_;refine cM ?_;refine qr rfl (sX.bp (cs:=bX nm ya) DA.h CC.h rfl rfl rfl rfl rfl rfl rfl (fun m h=>by simpa only[aT]using h)) rfl rfl ?_;refine RD.act rfl (oAq (c:=bX nm) (xs:=gN P.gen x2) (ys:=[ya]) rfl rfl rfl rfl rfl rfl rfl rfl ⟨by simp;omega,by simp;omega⟩) rfl rfl ?_;refine cM ?_;refine qM ?_;refine bC ⟨by kernel_rfl,⟨opm,opm,opm,opm,opm,opm,opm,opm,opm,opm,opm,trivial⟩,?_⟩;refine goN ?_;have CW:∀k,k<P.N.length->nm k<M1+1:=fun k hk=>Nat.lt_succ_of_lt (hN k hk);have fO:=nA.wf x2 (zX wQ);have pF:(show PP from{ P with N:=N2 }).N.length=P.N.length:=mP;rw[pF]at fO;have hgK:∀(b:B)(H:X (Nat×B)),gt ((M1+1,b)::H) (M1+1)=some b:=fun b H=>by simp[aP]
   have gtfz:∀(b c d:B)(k:Nat),k<M1->k≠nm i->gt (fzH (M1+1) b 2 ((M1+1,b)::(M1,c)::ug H1 (nm i) d)) k=gt H1 k:=fun b c d k hk jS=>by rw[AO,if_neg qq0,aP,if_neg qq0,aP,if_neg qq0,bS,if_neg (Ne.symm jS)];rcases hq:gt H1 k with _|b';rfl;simp only[zM];rw[Hb _ _ (Hg (Nat.le_succ M1) (fM k b' hq).2)]
   have gtni:∀(b c:B)(R:X U),gt (fzH (M1+1) b 2 ((M1+1,b)::(M1,c)::ug H1 (nm i) (.row R 103))) (nm i)=some (.row (gU (M1+1) b 2 R) 103):=fun b c R=>by rw[AO,if_neg qq0,aP,if_neg qq0,aP,if_neg qq0,bS,if_pos rfl,nA.node i x2 wQ];rfl
   refine⟨(bV P.gen y).length-(t+1),fr 129 [(0,.ptr kp 0 0),(7,GB),(8,pt nm i),(9,pt nm j),(10,.i6 r1.1),(12,.iM (bX nm) (bV P.gen x)),(63,.iM (bX nm) (bV P.gen y)),(64,.i6 (bV P.gen y).length),(65,.i6 ((t+1:Nat):Int))],⟨fzH (M1+1) (.bv (bX nm) (gN P.gen x2++[ya]) 107 2 1) 2 _,M1+1+1⟩,by omega,⟨t+1,W1,N2.set i { x2 with more:=gN P.gen x2++[ya],moA:=P.gen },GB,_,M1+1+1,rfl,eW,cJ,rfl,rfl,?_,?_,by simp[mP],by omega,?_⟩,by show nx<=M1+1+1;omega,Gh.trans (Gh.sub ?_) (Gh.fz (M1+1) (.bv (bX nm) (gN P.gen x2++[ya]) 107 2 1) 2 (hgK _ _) nofun (tP _ _ _ (YD ?_)) rfl)⟩;refine nA.upd wQ ⟨?_,?_,?_,?_⟩ ((gtni _ _ _).trans ?_) fun k b hb hk=>(gtfz _ _ _ k (fM k b hb).1 hk).trans hb;rw[pF];exact fO.arcs;rw[pF];exact fO.fw;rw[pF];intro a ha;rcases yD.1 ha with ha |ha
   exact ip fO a ha;simp at ha;subst ha;exact pz a (zX Bb);rw[pF];exact fO.cp;have e1:=GX (c:=bX nm) (sz:=2) (fun _=>rfl) (gN P.gen x2++[ya]) (M1+1) 2 107 1;simp only[sZ,vF,DL,H6,KY,N7 _ _ _ (Gu CW fO.fw),N7 _ _ _ (Gu CW fO.cp)];rw[e1];rfl;refine B5.keep fun k q s hk=>(gtfz _ _ _ k (fM k _ hk).1 fun e=>?_).trans hk;rw[e,nA.node i x2 wQ]at hk;cases hk;intro k hk hn;exact(gtfz _ _ _ k qq0 (Ne.symm (hn i qq0))).trans (xG k hk hn)
   ·have kP:IntKind.i64.wrap ((t:Int)+1)=((t+1:Nat):Int):=by rw[oZ qq0 qq0];rfl
    rw[<-kP];(repeat refine⟨rfl,?_⟩);exact trivial
   simp only[BelS,aT,and_true,true_and];exact⟨by omega,aT.le (Nat.le_succ M1) _ (B5.bel fM),by omega,CW j qq0,Ht _ fun a ha=>CW _ (by rw[<-aQ];exact NA (uF.wf x (zX hx)) a ha),Ht _ fun a ha=>CW _ (pz a ha)⟩
 ·refine goN ?_;have eW:t=(bV P.gen y).length:=by
   have:¬ (t:Int)<(bV P.gen y).length:=by simpa using h4
   omega
  subst eW;rw[List.drop_length]at cJ;obtain rfl:=sI cJ;exact⟨_,_,⟨GB,H1,M1,rfl,rfl,nA,B5,mP,wY,xG⟩,wY,Gh.sub (by((repeat refine⟨rfl,?_⟩);exact trivial))⟩
end
def RE(N:X PN)(g:Int)(n:Nat):X eC->X Nat->V (X Nat)
 |[],out=>some out|a::l,out=>a8 (sV N g n a.to) fun q=>cond (out.contains q) (RE N g n l out) (aF (out.length<=1000000) (RE N g n l (out++[q])))
def VY(N:X PN)(g:Int)(n:Nat):Nat->Nat->X Nat->V (X Nat)
 |0,_,_=>none|m+1,i,out=>cond (decide (i<out.length)) (a8 out[i]? fun p=>a8 N[p]? fun x=>aF ((bV g x).length<=1000000/\out.length<=1000000) (a8 (RE N g n (bV g x) out) fun o=>VY N g n m (i+1) o)) (some out)
def G0(nm:Nat->Nat)(s:Nat)(out:X Nat):X (Nat×U×Nat):=(out.zipIdx s).map fun p=>(nm p.1,.bool true,p.2)
theorem z9a(nm:Nat->Nat)(s:Nat)(out:X Nat)(q:Nat):G0 nm s (out++[q])=G0 nm s out++[(nm q,.bool true,s+out.length)]:=by simp[G0,List.zipIdx_append]
theorem oe{nm:Nat->Nat}{n:Nat}(hi:∀i j,i<n->j<n->nm i=nm j->i=j){q:Nat}(hq:q<n):∀(out:X Nat)(s:Nat),(∀k∈out,k<n)->vK (nm q) (G0 nm s out)=cond (out.contains q) (some (.bool true)) none
 |[],s,_=>rfl|k::out,s,h=>by
  have ih:=oe hi hq out (s+1) fun k hk=>h k (by simp[hk]);simp only[G0,List.zipIdx_cons,zQ,vK]at ih ⊢;rw[ih,List.contains_cons];by_cases e:q=k;subst e;simp[beq_eq];have:nm k≠nm q:=fun h2=>e (hi q k hq (h k qq4) h2.symm);have e2:(q==k)=false:=by simpa using e
  simp[beq_eq,this,e2]
theorem ow{nm:Nat->Nat}{h:X (Nat×B)}{n:Nat}(hr:∀i,i<n->isRow h (nm i)):∀(out:X Nat)(s:Nat),(∀k∈out,k<n)->∀e∈G0 nm s out,isRow h e.1:=fun out s ho e he=>by
 simp only[G0,List.mem_map]at he;obtain⟨p,hp,rfl⟩:=he;exact hr _ (ho _ (List.fst_mem_of_mem_zipIdx hp))
section
variable{kp kr st:Nat}{nm:Nat->Nat}{P:PP}{h:X (Nat×B)}{nx:Nat}
theorem PH.row(p:PH kp kr st nm P h):∀i,i<P.N.length->isRow h (nm i):=fun i hi=>⟨_,_,p.node i _ (List.getElem?_eq_getElem hi)⟩
theorem jj{N:X PN}{g:Int}{n i r:Nat}(h:sV N g n i=some r):r<N.length:=by obtain⟨x,hx⟩:=jv h;exact(zG.1 hx).1
structure Fe(kp kr st:Nat)(nm:Nat->Nat)(P:PP)(h:X (Nat×B))(nx:Nat)(out:X Nat)(Ks Ko so:Nat)(H:X (Nat×B))(M:Nat):Prop where
 mp:gt H Ks=some (.map ((G0 nm 0 out).map pE) out.length)
 vc:gt H Ko=some (.bv (dW nm) out 92 1 so)
 ks:nx<=Ks
 ko:nx<=Ko
 old:∀k,k<nx->gt H k=gt h k
 le:nx<=M
 lt:∀k∈out,k<P.N.length
theorem Fe.ph{out:X Nat}{Ks Ko so M:Nat}{H:X (Nat×B)}(r:Fe kp kr st nm P h nx out Ks Ko so H M)(p:PH kp kr st nm P h)(hw:oH ⟨h,nx⟩):PH kp kr st nm P H:=p.more fun k b hb=>by rw[r.old k (hw k b hb).1];exact hb
theorem z64(p:PH kp kr st nm P h)(n:Nat){i:Nat}(hi:i<P.N.length){out:X Nat}(O:VY P.N P.gen n n 0 [i]=some out):
  aW prog 67 [.ptr kp 0 0,pt nm i] ⟨h,nx⟩ (fun u Y'=>u=.iM (dW nm) out/\Y'=⟨h,nx⟩):=by
 refine aW.wf fun tA _=>?_
 haveI:SuC nx (nx+1):=⟨rfl⟩
 haveI:SuC (nx+1) (nx+2):=⟨rfl⟩
 refine eL 49 Yi ?_;refine goN ?_;refine RS.w rfl z0r ?_;refine goN ?_;have h1:∀(b:B),∀k c,gt h k=some c->gt ((nx,b)::h) k=some c:=fun b k c hc=>by rw[jE (tA k c hc).1];exact hc
 refine RS.stepn rfl (fN.pins tb_ok (es:=[]) (cl:=0) (v:=.bool true) (.inr rfl) GF.h gW.h (bB mO.h) (dQ rfl) (dQ rfl) (dQ rfl) (by simp[newU,aP]) (ow (p.more (h1 _)).row [i] 0 (by simpa using hi) (nm i,.bool true,0) (by simp[G0])) qq4 rfl) ?_;rintro _ _ ⟨rfl,rfl⟩;refine goN ?_;refine D8 rfl (fN.bslv (k:=1) (cs:=(List.map (dW nm) [i]).flatten) (qs:=[(0,pt nm i)]) tb_ok rfl gX.h iO.h (xa rfl) rfl rfl rfl rfl rfl rfl rfl) ?_;rintro _ _ ⟨rfl,rfl⟩;refine goN ?_;have Cq:∀(b c d:B)(k:Nat),k<nx->gt ((nx+1,b)::ug ((nx,c)::h) nx d) k=gt h k:=fun b c d k hk=>by rw[aP,if_neg qq0,bS,if_neg qq0,aP,if_neg qq0]
 refine gL (fun m tm Y=>∃(t:Nat)(o:X Nat)(so:Nat)(H:X (Nat×B))(M:Nat),VY P.N P.gen n m t o=some out/\tm=fr 49 [(0,.ptr kp 0 0),(5,.map nx),(6,.vl (nx+1) so 0 o.length),(7,.i6 t)]/\t<=o.length/\Y=⟨H,M⟩/\Fe kp kr st nm P h nx o nx (nx+1) so H M)
  (fun tm Y=>∃(so:Nat)(H:X (Nat×B))(M:Nat),tm=fr 49 [(6,.vl (nx+1) so 0 out.length)]/\Y=⟨H,M⟩/\Fe kp kr st nm P h nx out nx (nx+1) so H M) n
  ⟨0,[i],0,_,nx+2,O,rfl,Nat.zero_le _,rfl,⟨by show gt ((nx+1,_)::ug ((nx,_)::h) nx _) nx=_;rw[aP,if_neg qq0,bS,if_pos rfl];simp[aP,G0],by simp[newU,aP,B.bv],zF _,Nat.le_succ _,fun k hk=>Cq _ _ _ k hk,by omega,by simpa using hi⟩⟩ ?_ ?_ (by show nx<=nx+2;omega)
 rintro _ _ ⟨so,H,M,rfl,rfl,hr⟩;refine goN ?_;refine⟨.inr rfl,_,dT rfl eD,.iM (dW nm) out,⟨h,nx⟩,zF _,qt (c:=dW nm) (xs:=out) (e:=92) (sz:=1) (K:=nx+1) (st:=so) tA (Nat.le_succ _) hr.vc hr.old hr.le (tm':=[.iM (dW nm) out]) ?_ ?_ (zF _),rfl,rfl⟩;exact congrArg (fun u=>[u]) (GX (c:=dW nm) (sz:=1) (fun _=>rfl) out (nx+1) 1 92 so);simp only[aG,aT,and_true];rw[Hu];intro c hc;obtain⟨a,ha,rfl⟩:=List.mem_map.1 hc;simp only[dW,pt,aG,aT,and_true];exact p.lt tA (hr.lt a ha);rintro(_ |m) _ _ ⟨t,o,so,H,M,O,rfl,ht,rfl,hr⟩;cases O;have hp:=hr.ph p tA;refine goN ?_;refine RS.w rfl (H5 rfl rfl rfl (ak gX.h hr.vc)) ?_;refine goN ?_;refine eG rfl (fun h2=>?_) (fun h2=>?_)
 ·have pS:t<o.length:=by simpa using h2
  change cond (decide (t<o.length)) _ _=some out at O;rw[decide_eq_true pS]at O;obtain⟨q,hq,x,hx,O⟩:=bO O;obtain⟨⟨hl,BC⟩,O⟩:=c6 O;obtain⟨o2,Vs,O⟩:=aI O;have jX:aB o (t:Int)=some q:=by rw[aB,if_pos ⟨by omega,by omega⟩];simpa using hq
  have hv:oA ⟨H,M⟩ (nx+1) so=some ((o.map (dW nm)).flatten,92,1):=by simp[oA,hr.vc,B.bv]
  refine goN ?_;apply cE;refine goN ?_;refine RS.w rfl (dZ rfl rfl (kC (dW nm) gX.h (bB iO.h) qq3 (fun _=>rfl) hv jX)) ?_;refine RS.w rfl (sY (dW nm) (pt nm) gW.h rfl (fun _=>rfl) rfl hr.vc jX) (aK rfl (rh hp hx hl) EH ?_);refine goN ?_;refine gL (fun m tm Y=>∃(j:Nat)(o1:X Nat)(so:Nat)(H:X (Nat×B))(M:Nat),m=(bV P.gen x).length-j/\j<=(bV P.gen x).length/\RE P.N P.gen n ((bV P.gen x).drop j) o1=some o2/\t<o1.length/\tm=fr 49 [(0,.ptr kp 0 0),(5,.map nx),(6,.vl (nx+1) so 0 o1.length),(7,.i6 t),(27,.iM (bX nm) (bV P.gen x)),(28,.i6 (bV P.gen x).length),(29,.i6 j)]/\Y=⟨H,M⟩/\Fe kp kr st nm P h nx o1 nx (nx+1) so H M)
   (fun tm Y=>∃(so:Nat)(H:X (Nat×B))(M:Nat),tm=fr 49 [(0,.ptr kp 0 0),(5,.map nx),(6,.vl (nx+1) so 0 o2.length),(7,.i6 t)]/\t<o2.length/\Y=⟨H,M⟩/\Fe kp kr st nm P h nx o2 nx (nx+1) so H M) (bV P.gen x).length
   ⟨0,o,so,H,M,rfl,Nat.zero_le _,Vs,pS,rfl,rfl,hr⟩ ?_ ?_ hr.le
  ·rintro _ _ ⟨so2,H2,M2,rfl,hto2,rfl,hr2⟩;refine goN ?_;have kP:IntKind.i64.wrap ((t:Int)+1)=((t+1:Nat):Int):=by rw[oZ qq0 qq0];rfl
   refine⟨m,_,_,zN _,⟨t+1,o2,so2,H2,M2,O,rfl,hto2,rfl,hr2⟩,hr2.le,Gh.sub ?_⟩;rw[<-kP];(repeat refine⟨rfl,?_⟩);exact trivial
  rintro _ _ _ ⟨j,o1,Np,H1,M1,rfl,hj,cJ,Ve,rfl,rfl,hr1⟩;have nA:=hr1.ph p tA;refine WPU.wf fun fM _=>?_
  haveI:SuC M1 (M1+1):=⟨rfl⟩
  haveI:SuC (M1+1) (M1+2):=⟨rfl⟩
  refine goN ?_;refine eG rfl (fun h4=>?_) (fun h4=>?_)
  ·have iD:j<(bV P.gen x).length:=by simpa using h4
   obtain⟨a,ha⟩:∃a,(bV P.gen x)[j]? = some a:=⟨_,List.getElem?_eq_getElem iD⟩;have jX:aB (bV P.gen x) (j:Int)=some a:=by rw[aB,if_pos ⟨by omega,by omega⟩];simpa using ha
   have vP:(bV P.gen x).drop j=a::(bV P.gen x).drop (j+1):=by rw[List.drop_eq_getElem_cons iD];rw[List.getElem?_eq_getElem iD]at ha;cases ha;rfl
   have kP:IntKind.i64.wrap ((j:Int)+1)=((j+1:Nat):Int):=by rw[oZ qq0 qq0];rfl
   rw[vP]at cJ;obtain⟨q1,FM,cJ⟩:=aI cJ;have IC:=jj FM;have hH:∀(b:B),∀k c,gt H1 k=some c->gt ((M1,b)::H1) k=some c:=fun b k c hc=>by rw[jE (fM k c hc).1];exact hc
   have EB:Fe kp kr st nm P h nx o1 nx (nx+1) Np ((M1,.row (bX nm a) 107)::H1) (M1+1):=⟨hH _ _ _ hr1.mp,hH _ _ _ hr1.vc,hr1.ks,hr1.ko,fun k hk=>by rw[jE (Nat.lt_of_lt_of_le hk hr1.le)];exact hr1.old k hk,Nat.le_succ_of_le hr1.le,hr1.lt⟩;have Bv:=EB.ph p tA;refine goN ?_;apply cE;refine goN ?_;refine cB jX ?_;refine goN ?_;refine aK rfl (Ox Bv n FM) xR ?_;refine goN ?_;refine D8 rfl (fN.plook tb_ok (zu:=.bool false) rfl GF.h gW.h (bB mO.h) if4.h rfl (dQ rfl) (dQ rfl) EB.mp (Bv.row q1 IC) (ow Bv.row o1 0 hr1.lt)) ?_;rintro _ _ ⟨rfl,rfl⟩;rw[oe p.inj IC o1 0 hr1.lt];cases hc:o1.contains q1 with
   |true=>rw[hc]at cJ;refine goN ?_;refine eG rfl (fun h5=>by cases h5) (fun h5=>?_);refine goN ?_;refine⟨(bV P.gen x).length-(j+1),_,_,by omega,⟨j+1,o1,Np,_,M1+1,rfl,iD,cJ,Ve,rfl,rfl,EB⟩,EB.le,Gh.sub ?_⟩;rw[<-kP];(repeat refine⟨rfl,?_⟩);exact trivial|false=>
    rw[hc]at cJ;obtain⟨hol1,cJ⟩:=c6 cJ;refine goN ?_;refine eG rfl (fun h5=>?_) (fun h5=>by cases h5);refine goN ?_;have Kn:nx+1<M1:=(fM _ _ hr1.vc).1;refine RS.stepn rfl (fN.pins tb_ok (v:=.bool true) (.inl rfl) GF.h gW.h (bB mO.h) (dQ rfl) (dQ rfl) (dQ rfl) EB.mp (Bv.row q1 IC) (ow Bv.row o1 0 hr1.lt) (by rw[oe p.inj IC o1 0 hr1.lt,hc];rfl)) ?_;rintro _ _ ⟨rfl,rfl⟩;change RU _ _ _ _ _ (Sg.mk (ug ((M1,.row (bX nm a) 107)::H1) nx (.map ((G0 nm 0 o1++[(nm q1,U.bool true,o1.length)]).map pE) (o1.length+1))) (M1+1)) _;refine goN ?_;refine c5 ?_;have Wp:gt ((M1+1,.row [pt nm q1] 92)::ug ((M1,.row (bX nm a) 107)::H1) nx (.map ((G0 nm 0 o1++[(nm q1,U.bool true,o1.length)]).map pE) (o1.length+1))) (nx+1)=some (.vec (o1.map (dW nm)).flatten 92 1 Np):=by rw[aP,if_neg qq0,bS,if_neg qq0];exact EB.vc
    refine RS.w rfl (pQ rfl rfl rfl rfl (DN (dW nm) [q1] gX.h gX.h iO.h rfl (fun _=>rfl) Wp (FE (dW nm) [q1] (q:=[pt nm q1]) (by simp[rowOf,aP]) rfl rfl rfl) ⟨by simp;omega,by simp;omega⟩)) ?_;refine goN ?_;refine⟨(bV P.gen x).length-(j+1),_,_,by omega,⟨j+1,o1++[q1],Np+1,_,M1+2,rfl,iD,cJ,by simp;omega,rfl,rfl,⟨?_,?_,zF _,Nat.le_succ _,fun k hk=>?_,by omega,?_⟩⟩,by show nx<=M1+2;omega,Gh.sub ?_⟩;rw[bS,if_neg qq0];show gt ((M1+1,_)::ug ((M1,_)::H1) nx _) nx=_;rw[aP,if_neg qq0,bS,if_pos rfl,EB.mp,z9a];simp;rw[bS,if_pos rfl,Wp];rfl;rw[bS,if_neg qq0];show gt ((M1+1,_)::ug ((M1,_)::H1) nx _) k=_;rw[aP,if_neg qq0,bS,if_neg qq0];exact EB.old k hk;intro k hk;rcases yD.1 hk with hk |hk;exact hr1.lt k hk;simp at hk;subst hk;exact IC
    ·rw[<-kP];(repeat refine⟨rfl,?_⟩);exact trivial
  ·refine goN ?_;have iD:j=(bV P.gen x).length:=by
    have:¬ (j:Int)<(bV P.gen x).length:=by simpa using h4
    omega
   subst iD;rw[List.drop_length]at cJ;obtain rfl:=sI cJ;exact⟨_,_,⟨Np,H1,M1,rfl,Ve,rfl,hr1⟩,hr1.le,Gh.sub (by((repeat refine⟨rfl,?_⟩);exact trivial))⟩
 ·refine goN ?_;have pS:t=o.length:=by have:¬ (t:Int)<o.length:=(by simpa using h2);omega
  change cond (decide (t<o.length)) _ _=some out at O;rw[decide_eq_false qq0]at O;obtain rfl:=sI O;exact⟨_,_,⟨so,H,M,rfl,rfl,hr⟩,hr.le,Gh.sub (by((repeat refine⟨rfl,?_⟩);exact trivial))⟩
end
section
variable{kp kr st:Nat}{nm:Nat->Nat}{P:PP}{h:X (Nat×B)}{nx:Nat}
theorem PH.beq(p:PH kp kr st nm P h){i j:Nat}(hi:i<P.N.length)(hj:j<P.N.length):Nat.beq (nm i) (nm j)=Nat.beq i j:=by rw[beq_eq,beq_eq];by_cases e:i=j;simp[e];have:nm i≠nm j:=fun h=>e (p.inj i j hi hj h);simp[e,this]
theorem z5h(p:PH kp kr st nm P h){kx:Nat}(hk:gt h kx=some (.row [.ptr kp 0 0] 31))(n:Nat){a:eC}{r:Nat}(hr:sV P.N P.gen n a.to=some r)(ha:a.to<P.N.length):
  aW prog 107 (.agg (bX nm a)::[.ptr kx 0 0]) ⟨h,nx⟩ (fun u Y'=>u=.bool (!Nat.beq r a.to)/\Y'=⟨h,nx⟩):=by
 refine aW.wf fun hw _=>?_;have vM:=jj hr
 haveI:SuC nx (nx+1):=⟨rfl⟩
 have hp:PH kp kr st nm P ((nx,.row (bX nm a) 107)::h):=p.more fun k b hb=>by rw[jE (hw k b hb).1];exact hb
 haveI:eE ((nx,.row (bX nm a) 107)::h) kx (.row [.ptr kp 0 0] 31):=⟨by rw[jE (hw _ _ hk).1];exact hk⟩
 have hnr:=hp.node r _ (List.getElem?_eq_getElem vM);have hna:=hp.node a.to _ (List.getElem?_eq_getElem ha);refine eL 11 VC ?_;refine goN ?_;refine WPU.any tb_ok (lF:=[(3,.bool (if BinOp.neq=BinOp.eql then Nat.beq (nm r) (nm a.to)else !Nat.beq (nm r) (nm a.to)))]) (YF:=⟨(nx,.row (bX nm a) 107)::h,nx+1⟩) (fun hq=>?_) ?_
 ·repeat' first
   |exact trivial
   |refine⟨rfl,?_⟩
   |refine And.intro ?_ ?_
   |(show qj _ _ _ _ _ _ _ _ _;refine Exists.intro _ ⟨rfl,rfl,rfl,.inl ⟨_,_,opm,_,_,Gh.refl _ _ _,Nat.le_succ _,?_⟩⟩)
   |(show qj _ _ _ _ _ _ _ _ _;refine Exists.intro _ ⟨rfl,rfl,rfl,.inr (.inl ⟨_,_,_,yN rfl rfl xR rfl rfl rfl,Ox hp n hr,?_⟩)⟩;rintro _ _ ⟨rfl,rfl⟩;refine⟨_,_,Gh.refl _ _ _,Nat.le_succ _,?_⟩)
   |(show qj _ _ _ _ _ _ _ _ _;refine Exists.intro _ ⟨rfl,rfl,rfl,.inr (.inr ⟨_,fN.peq tb_ok rfl (.inr rfl) gW.h (bB mO.h) (dQ rfl) (dQ rfl) hnr hna,?_⟩)⟩;rintro _ _ ⟨rfl,rfl⟩;refine⟨_,_,Gh.refl _ _ _,Nat.le_succ _,?_⟩)
  all_goals exact⟨_,⟨(nx,.row (bX nm a) 107)::h,nx+1⟩,Gh.sub (l':=[(3,.bool (if BinOp.neq=BinOp.eql then Nat.beq (nm r) (nm a.to)else !Nat.beq (nm r) (nm a.to)))]) ⟨rfl,trivial⟩,Nat.le_succ _,hq⟩
 refine goN ?_;exact qz hw rfl rfl rfl (fun k hk=>jE hk) (Nat.le_succ _) (by simp[aT]) ⟨by rw[if_neg qq3,hp.beq vM ha],rfl⟩
theorem z5s{v12:Type}(q:v12->PE)(l:X v12):decide (AA q l>=0)=l.any q:=by
 unfold AA;cases hf:l.findIdx? q with
 |none=>
  rw[List.findIdx?_eq_none_iff]at hf;have:l.any q=false:=by rw[List.any_eq_false];intro x hx;simp[hf x hx]
  rw[this];rfl
 |some i=>rw[List.findIdx?_eq_some_iff_getElem]at hf;obtain⟨hi,h1,_⟩:=hf;have:l.any q=true:=List.any_eq_true.2 ⟨l[i],List.getElem_mem hi,h1⟩;rw[this];simp
theorem z95{Y:Sg}{nm:Nat->Nat}{l:X eC}{g:FuncId}{fn:Func}{cap:X U}{q:eC->PE}(Cq:tb.fn g=some fn)(hb:fn.body.isSome=true)(hl:l.length<=1000000)(hg:∀a∈l,aW prog g (.agg (bX nm a)::cap) Y (fun u Y'=>u=.bool (q a)/\Y'=Y)):
  aW prog 106 [.iM (bX nm) l,.fn (.func g) [] cap] Y (fun u Y'=>u=.bool (l.any q)/\Y'=Y):=by refine eL 9 VD ?_;refine goN ?_;refine aK rfl (z7o Cq hb hl hg) JB ?_;refine goN ?_;exact C1 rfl rfl rfl (zF _) ⟨by rw[z5s],rfl⟩
end
def yQ(g:Int)(x:PN):PE:=cond (x.chA != g) false x.ch
def MA(N:X PN)(g:Int)(n:Nat)(a:eC):PE:=match sV N g n a.to with
 |some r=>!Nat.beq r a.to|none=>false
def Gb(N:X PN)(g:Int)(n:Nat)(l:X eC):PE:=l.all fun a=>(sV N g n a.to).isSome
def ZQ(g:Int)(n:Nat):X Nat->X PN->V (X PN)
 |[],N=>some N|p::l,N=>a8 N[p]? fun x=>cond (Gb N g n x.arcs) (aF (x.arcs.length<=1000000) (ZQ g n l (N.set p { x with ch:=gP g x != x.kind||(decide (((gN g x).length:Int)>0)||x.arcs.any (MA N g n)),chA:=g }))) none
def HH(g:Int)(N:X PN):X eC->V PE
 |[]=>some false|a::l=>a8 N[a.to]? fun y=>cond (yQ g y) (some true) (HH g N l)
def JY(g:Int):X Nat->PE->X PN->V (PE×X PN)
 |[],ag,N=>some (ag,N)|p::l,ag,N=>a8 N[p]? fun x=>cond (yQ g x) (JY g l ag N) (aF (x.arcs.length<=1000000) (a8 (HH g N x.arcs) fun c=>cond c (JY g l true (N.set p { x with ch:=true,chA:=g })) (JY g l ag N)))
def ZP(g:Int)(l:X Nat):Nat->X PN->V (X PN)
 |0,_=>none|m+1,N=>a8 (JY g l false N) fun r=>cond r.1 (ZP g l m r.2) (some r.2)
def Lo(g:Int)(n:Nat)(l:X Nat)(N:X PN):V (X PN):=aF (l.length<=1000000) (a8 (ZQ g n l N) fun N1=>ZP g l n N1)
section
variable{kp kr st:Nat}{nm:Nat->Nat}{P:PP}{h:X (Nat×B)}{nx:Nat}
structure tY(kp kr st:Nat)(nm:Nat->Nat)(P:PP)(h:X (Nat×B))(nx:Nat)(N:X PN)(H:X (Nat×B))(M:Nat):Prop where
 ph:PH kp kr st nm { P with N:=N } H
 bx:gt H nx=some (.row [.ptr kp 0 0] 31)
 fr:∀k,k<nx->(∀i,i<P.N.length->nm i≠k)->gt H k=gt h k
 le:nx<M
 len:N.length=P.N.length
theorem tY.put{N:X PN}{H:X (Nat×B)}{M:Nat}(m:tY kp kr st nm P h nx N H M){i:Nat}{x:PN}(y:PN)(hx:N[i]? = some x)(hy:kF P.N.length y):tY kp kr st nm P h nx (N.set i y) (ug H (nm i) (.row (oF nm y) 103)) M:=by have hi:i<N.length:=(zG.1 hx).1;refine⟨m.ph.put y hx (by show kF N.length y;rw[m.len];exact hy),?_,fun k hk hn=>?_,m.le,by simp[m.len]⟩;rw[bS,if_neg fun e=>?_];exact m.bx;have:=m.bx;rw[<-e,m.ph.node i x hx]at this;simp at this;rw[bS,if_neg (hn i (by rw[<-m.len];exact hi))];exact m.fr k hk hn
theorem tY.wf{N:X PN}{H:X (Nat×B)}{M:Nat}(m:tY kp kr st nm P h nx N H M){i:Nat}{x:PN}(hx:N[i]? = some x):kF P.N.length x:=by have:=m.ph.wf x (zX hx);rw[show({ P with N:=N }:PP).N.length=P.N.length from m.len]at this;exact this
theorem tY.more{N:X PN}{H:X (Nat×B)}{M:Nat}(m:tY kp kr st nm P h nx N H M)(hw:oH ⟨H,M⟩)(b:B):tY kp kr st nm P h nx N ((M,b)::H) (M+1):=
 ⟨m.ph.more fun k c hc=>by rw[jE (hw k c hc).1];exact hc,by rw[jE m.le];exact m.bx,fun k hk hn=>by rw[jE (Nat.lt_trans hk m.le)];exact m.fr k hk hn,Nat.lt_succ_of_lt m.le,m.len⟩
theorem tY.gb{N:X PN}{H:X (Nat×B)}{M:Nat}(m:tY kp kr st nm P h nx N H M):eE H nx (.row [.ptr kp 0 0] 31):=⟨m.bx⟩
theorem z9o(p:PH kp kr st nm P h)(n:Nat){l:X Nat}(hl:∀i∈l,i<P.N.length){N':X PN}(O:Lo P.gen n l P.N=some N'):
  aW prog 68 [.ptr kp 0 0,.iM (dW nm) l] ⟨h,nx⟩ (fun u Y'=>∃H M,u=.tup []/\Y'=⟨H,M⟩/\PH kp kr st nm { P with N:=N' } H/\N'.length=P.N.length/\nx<=M/\∀k,k<nx->(∀i,i<P.N.length->nm i≠k)->gt H k=gt h k):=by
 refine aW.wf fun tA _=>?_;obtain⟨rL,O⟩:=c6 O;obtain⟨N1,h1,h2⟩:=aI O
 haveI:SuC nx (nx+1):=⟨rfl⟩
 refine eL 120 Yh ?_;refine goN ?_;have Vv:tY kp kr st nm P h nx P.N ((nx,.row [.ptr kp 0 0] 31)::h) (nx+1):=⟨p.more fun k b hb=>by rw[jE (tA k b hb).1];exact hb,by simp[aP],fun k hk _=>jE hk,zN _,rfl⟩;refine gL (fun m tm Y=>∃(t:Nat)(N:X PN)(H:X (Nat×B))(M:Nat),m=l.length-t/\t<=l.length/\ZQ P.gen n (l.drop t) N=some N1/\tm=fr 120 [(1,.iM (dW nm) l),(2,.ptr nx 0 0),(18,.iM (dW nm) l),(19,.i6 l.length),(20,.i6 t)]/\Y=⟨H,M⟩/\tY kp kr st nm P h nx N H M)
  (fun tm Y=>∃(H:X (Nat×B))(M:Nat),tm=fr 120 [(1,.iM (dW nm) l),(2,.ptr nx 0 0)]/\Y=⟨H,M⟩/\tY kp kr st nm P h nx N1 H M) l.length
  ⟨0,P.N,_,nx+1,rfl,Nat.zero_le _,h1,rfl,rfl,Vv⟩ ?_ ?_ (Nat.le_succ _)
 ·rintro _ _ ⟨H,M,rfl,rfl,hm⟩;refine goN ?_;refine gL (fun m tm Y=>∃(ag:PE)(N:X PN)(H:X (Nat×B))(M:Nat),cond ag (ZP P.gen l m N) (some N)=some N'/\tm=fr 120 [(1,.iM (dW nm) l),(2,.ptr nx 0 0),(9,.bool ag)]/\Y=⟨H,M⟩/\tY kp kr st nm P h nx N H M)
   (fun tm Y=>∃(H:X (Nat×B))(M:Nat),tm=fr 120 []/\Y=⟨H,M⟩/\tY kp kr st nm P h nx N' H M) n
   ⟨true,N1,H,M,h2,rfl,rfl,hm⟩ ?_ ?_ (Nat.le_of_lt hm.le)
  rintro _ _ ⟨H,M,rfl,rfl,hm⟩;exact⟨.inl rfl,[],rfl,.tup [],_,Nat.le_of_lt hm.le,Gh.refl _ _ _,H,M,rfl,rfl,hm.ph,hm.len,Nat.le_of_lt hm.le,hm.fr⟩;rintro m _ _ ⟨ag,N,H,M,yY,rfl,rfl,hm⟩;refine goN ?_;refine eG rfl (fun h3=>?_) (fun h3=>?_)
  ·subst h3;cases m with
   |zero=>cases yY|succ m=>
   obtain⟨r,hr,yY⟩:=aI (show a8 (JY P.gen l false N) (fun r=>cond r.1 (ZP P.gen l m r.2) (some r.2))=some N' from yY);refine goN ?_;apply cE;refine goN ?_;refine gL (fun m tm Y=>∃(t:Nat)(ag:PE)(N:X PN)(H:X (Nat×B))(M:Nat),m=l.length-t/\t<=l.length/\JY P.gen (l.drop t) ag N=some r/\tm=fr 120 [(1,.iM (dW nm) l),(2,.ptr nx 0 0),(9,.bool ag),(68,.iM (dW nm) l),(69,.i6 l.length),(70,.i6 t)]/\Y=⟨H,M⟩/\tY kp kr st nm P h nx N H M)
    (fun tm Y=>∃(H:X (Nat×B))(M:Nat),tm=fr 120 [(1,.iM (dW nm) l),(2,.ptr nx 0 0),(9,.bool r.1)]/\Y=⟨H,M⟩/\tY kp kr st nm P h nx r.2 H M) l.length
    ⟨0,false,N,H,M,rfl,Nat.zero_le _,hr,rfl,rfl,hm⟩ ?_ ?_ (Nat.le_of_lt hm.le)
   ·rintro _ _ ⟨H,M,rfl,rfl,hm⟩;refine goN ?_;exact⟨m,_,_,zN _,⟨r.1,r.2,H,M,yY,rfl,rfl,hm⟩,Nat.le_of_lt hm.le,Gh.sub (by((repeat refine⟨rfl,?_⟩);exact trivial))⟩
   rintro _ _ _ ⟨t,ag,N,H,M,rfl,ht,cJ,rfl,rfl,hm⟩;refine goN ?_;refine eG rfl (fun h4=>?_) (fun h4=>?_)
   ·have eW:t<l.length:=by simpa using h4
    obtain⟨q,hq⟩:∃a,l[t]? = some a:=⟨_,List.getElem?_eq_getElem eW⟩;have jX:aB l (t:Int)=some q:=by rw[aB,if_pos ⟨by omega,by omega⟩];simpa using hq
    have vP:l.drop t=q::l.drop (t+1):=by rw[List.drop_eq_getElem_cons eW];rw[List.getElem?_eq_getElem eW]at hq;cases hq;rfl
    have kP:IntKind.i64.wrap ((t:Int)+1)=((t+1:Nat):Int):=by rw[oZ qq0 qq0];rfl
    rw[vP]at cJ;obtain⟨x,hx,cJ⟩:=aI cJ;have fO:=hm.wf hx
    haveI:=hm.ph.gp
    haveI:=hm.ph.gn hx
    haveI:=hm.gb
    refine goN ?_;apply cE;refine goN ?_;refine cB jX ?_;refine goN ?_;refine dE [] ?_;refine cM ?_;refine dK rfl (fun s=>Dg s x.ch x.chA P.gen) PT ?_;refine cM ?_;refine bC ⟨by kernel_rfl,trivial,?_⟩;refine goN ?_;refine eG rfl (fun h5=>?_) (fun h5=>?_)
    ·rw[show yQ P.gen x=true from h5]at cJ;refine goN ?_;refine⟨l.length-(t+1),_,_,by omega,⟨t+1,ag,N,H,M,rfl,eW,cJ,rfl,rfl,hm⟩,Nat.le_of_lt hm.le,Gh.sub ?_⟩;rw[<-kP];(repeat refine⟨rfl,?_⟩);exact trivial
    rw[show yQ P.gen x=false from h5]at cJ;obtain⟨lU,cJ⟩:=c6 cJ;obtain⟨c,hc,cJ⟩:=aI cJ;have hpi2:JY P.gen (l.drop (t+1)) (cond c true ag) (cond c (N.set q { x with ch:=true,chA:=P.gen }) N)=some r:=by cases c<;>exact cJ
    refine goN ?_;refine gL (fun m tm Y=>∃(j:Nat)(H:X (Nat×B))(M:Nat),m=x.arcs.length-j/\j<=x.arcs.length/\HH P.gen N (x.arcs.drop j)=some c/\tm=fr 120 [(1,.iM (dW nm) l),(2,.ptr nx 0 0),(9,.bool ag),(11,pt nm q),(68,.iM (dW nm) l),(69,.i6 l.length),(70,.i6 t),(90,.iM (bX nm) x.arcs),(91,.i6 x.arcs.length),(92,.i6 j)]/\Y=⟨H,M⟩/\tY kp kr st nm P h nx N H M)
     (fun tm Y=>∃(H:X (Nat×B))(M:Nat),tm=fr 120 [(1,.iM (dW nm) l),(2,.ptr nx 0 0),(9,.bool (cond c true ag)),(68,.iM (dW nm) l),(69,.i6 l.length),(70,.i6 t)]/\Y=⟨H,M⟩/\tY kp kr st nm P h nx (cond c (N.set q { x with ch:=true,chA:=P.gen }) N) H M) x.arcs.length
     ⟨0,H,M,rfl,Nat.zero_le _,hc,rfl,rfl,hm⟩ ?_ ?_ (Nat.le_of_lt hm.le)
    ·rintro _ _ ⟨H,M,rfl,rfl,hm⟩;refine goN ?_;refine⟨l.length-(t+1),_,_,by omega,⟨t+1,_,_,H,M,rfl,eW,hpi2,rfl,rfl,hm⟩,Nat.le_of_lt hm.le,Gh.sub ?_⟩;rw[<-kP];(repeat refine⟨rfl,?_⟩);exact trivial
    rintro _ _ _ ⟨j,H,M,rfl,hj,hc,rfl,rfl,hm⟩;refine WPU.wf fun fM _=>?_
    haveI:SuC M (M+1):=⟨rfl⟩
    refine goN ?_;refine eG rfl (fun h6=>?_) (fun h6=>?_)
    ·have iD:j<x.arcs.length:=by simpa using h6
     obtain⟨a,ha⟩:∃a,x.arcs[j]? = some a:=⟨_,List.getElem?_eq_getElem iD⟩;have BG:aB x.arcs (j:Int)=some a:=by rw[aB,if_pos ⟨by omega,by omega⟩];simpa using ha
     have IL:x.arcs.drop j=a::x.arcs.drop (j+1):=by rw[List.drop_eq_getElem_cons iD];rw[List.getElem?_eq_getElem iD]at ha;cases ha;rfl
     have B4:IntKind.i64.wrap ((j:Int)+1)=((j+1:Nat):Int):=by rw[oZ qq0 qq0];rfl
     rw[IL]at hc;obtain⟨y,hy,hc⟩:=aI hc;have uJ:=hm.more fM (.row (bX nm a) 107)
     haveI:=uJ.ph.gp
     haveI:=uJ.ph.gn hx
     haveI:=uJ.ph.gn hy
     haveI:=uJ.gb
     refine goN ?_;apply cE;refine goN ?_;refine cB BG ?_;refine goN ?_;refine dE [] ?_;refine cM ?_;refine dK rfl (fun s=>Dg s y.ch y.chA P.gen) PT ?_;refine cM ?_;refine bC ⟨by kernel_rfl,trivial,?_⟩;refine goN ?_;refine eG rfl (fun h7=>?_) (fun h7=>?_)
     ·rw[show yQ P.gen y=true from h7]at hc;obtain rfl:=sI hc;refine goN ?_;exact⟨_,_,⟨_,M+1,rfl,rfl,uJ.put { x with ch:=true,chA:=P.gen } hx ⟨fO.arcs,fO.fw,fO.more,fO.cp⟩⟩,Nat.le_of_lt uJ.le,Gh.sub (by((repeat refine⟨rfl,?_⟩);exact trivial))⟩
     ·rw[show yQ P.gen y=false from h7]at hc;refine goN ?_;refine⟨x.arcs.length-(j+1),_,_,by omega,⟨j+1,_,M+1,rfl,iD,hc,rfl,rfl,uJ⟩,Nat.le_of_lt uJ.le,Gh.sub ?_⟩;rw[<-B4];(repeat refine⟨rfl,?_⟩);exact trivial
    ·refine goN ?_;have iD:j=x.arcs.length:=by
      have:¬ (j:Int)<x.arcs.length:=by simpa using h6
      omega
     subst iD;rw[List.drop_length]at hc;obtain rfl:=sI hc;exact⟨_,_,⟨H,M,rfl,rfl,hm⟩,Nat.le_of_lt hm.le,Gh.sub (by((repeat refine⟨rfl,?_⟩);exact trivial))⟩
   ·refine goN ?_;have eW:t=l.length:=by
     have:¬ (t:Int)<l.length:=by simpa using h4
     omega
    subst eW;rw[List.drop_length]at cJ;obtain rfl:=sI cJ;exact⟨_,_,⟨H,M,rfl,rfl,hm⟩,Nat.le_of_lt hm.le,Gh.sub (by((repeat refine⟨rfl,?_⟩);exact trivial))⟩
  subst h3;obtain rfl:=sI yY;refine goN ?_;exact⟨_,_,⟨H,M,rfl,rfl,hm⟩,Nat.le_of_lt hm.le,Gh.sub trivial⟩
 ·rintro _ _ _ ⟨t,N,H,M,rfl,ht,cJ,rfl,rfl,hm⟩;refine goN ?_;refine eG rfl (fun h4=>?_) (fun h4=>?_)
  ·have eW:t<l.length:=by simpa using h4
   obtain⟨q,hq⟩:∃a,l[t]? = some a:=⟨_,List.getElem?_eq_getElem eW⟩;have jX:aB l (t:Int)=some q:=by rw[aB,if_pos ⟨by omega,by omega⟩];simpa using hq
   have vP:l.drop t=q::l.drop (t+1):=by rw[List.drop_eq_getElem_cons eW];rw[List.getElem?_eq_getElem eW]at hq;cases hq;rfl
   have kP:IntKind.i64.wrap ((t:Int)+1)=((t+1:Nat):Int):=by rw[oZ qq0 qq0];rfl
   rw[vP]at cJ;obtain⟨x,hx,cJ⟩:=aI cJ;obtain⟨bY,cJ⟩:Gb N P.gen n x.arcs=true/\_:=by rcases hc:Gb N P.gen n x.arcs with _|_;rw[hc]at cJ;cases cJ;rw[hc]at cJ;exact⟨rfl,cJ⟩
   obtain⟨lU,cJ⟩:=c6 cJ;have fO:=hm.wf hx
   haveI:=hm.ph.gp
   haveI:=hm.ph.gn hx
   haveI:=hm.gb
   refine goN ?_;apply cE;refine goN ?_;refine cB jX ?_;refine goN ?_;refine dE [] ?_;refine cM ?_;refine dK rfl (fun s=>PM s nm x.more x.moA P.gen) xT ?_;refine cM ?_;refine bC ⟨by kernel_rfl,trivial,?_⟩;refine goN ?_;refine RS.w rfl (wh rfl rfl) ?_;refine aK rfl (z95 (q:=MA N P.gen n) VC rfl lU (fun a ha=>?_)) VD ?_;have h6:=List.all_eq_true.1 bY a ha;obtain⟨r,hr⟩:=Option.isSome_iff_exists.1 h6;have h7:=z5h (nx:=M) hm.ph hm.bx n hr (by show a.to<N.length;rw[hm.len];exact fO.arcs a ha);have h8:MA N P.gen n a= !Nat.beq r a.to:=by simp only[MA,hr]
   rw[h8];exact h7;refine goN ?_;have hF3:∀{b:PE},(gP P.gen x != x.kind||(decide (((gN P.gen x).length:Int)>0)||x.arcs.any (MA N P.gen n)))=b->tY kp kr st nm P h nx (N.set q { x with ch:=b,chA:=P.gen }) (ug H (nm q) (.row (oF nm { x with ch:=b,chA:=P.gen }) 103)) M/\ZQ P.gen n (l.drop (t+1)) (N.set q { x with ch:=b,chA:=P.gen })=some N1:=fun{b} hb=>⟨hm.put _ hx ⟨fO.arcs,fO.fw,fO.more,fO.cp⟩,by rw[<-hb];exact cJ⟩;cases Xd:gP P.gen x != x.kind with
   |true=>obtain⟨g1,g2⟩:=hF3 (b:=true) (by rw[Xd];rfl);refine dE [] ?_;refine cM ?_;refine RD.call rfl (iA rfl xQ rfl).2 (Ow hm.ph hx) rfl rfl ?_;refine cM ?_;refine qM ?_;refine bC ⟨by kernel_rfl,trivial,?_⟩;refine goN ?_;refine⟨l.length-(t+1),_,_,by omega,⟨t+1,_,_,M,rfl,eW,g2,rfl,rfl,g1⟩,Nat.le_of_lt hm.le,Gh.sub ?_⟩;rw[<-kP];(repeat refine⟨rfl,?_⟩);exact trivial
   |false=>
    cases P9:decide (((cond (x.moA != P.gen) [] x.more).length:Int)>0)with
    |true=>obtain⟨g1,g2⟩:=hF3 (b:=true) (by rw[Xd,show decide (((gN P.gen x).length:Int)>0)=true from P9];rfl);refine dE [] ?_;refine cM ?_;refine RD.call rfl (iA rfl xQ rfl).2 (Ow hm.ph hx) rfl rfl ?_;refine cM ?_;refine qM ?_;refine bC ⟨by kernel_rfl,trivial,?_⟩;refine goN ?_;refine⟨l.length-(t+1),_,_,by omega,⟨t+1,_,_,M,rfl,eW,g2,rfl,rfl,g1⟩,Nat.le_of_lt hm.le,Gh.sub ?_⟩;rw[<-kP];(repeat refine⟨rfl,?_⟩);exact trivial
    |false=>obtain⟨g1,g2⟩:=hF3 (b:=x.arcs.any (MA N P.gen n)) (by rw[Xd,show decide (((gN P.gen x).length:Int)>0)=false from P9];rfl);refine dE [] ?_;refine cM ?_;refine RD.call rfl (iA rfl xQ rfl).2 (Ow hm.ph hx) rfl rfl ?_;refine cM ?_;refine qM ?_;refine bC ⟨by kernel_rfl,trivial,?_⟩;refine goN ?_;refine⟨l.length-(t+1),_,_,by omega,⟨t+1,_,_,M,rfl,eW,g2,rfl,rfl,g1⟩,Nat.le_of_lt hm.le,Gh.sub ?_⟩;rw[<-kP];(repeat refine⟨rfl,?_⟩);exact trivial
  ·refine goN ?_;have eW:t=l.length:=by
    have:¬ (t:Int)<l.length:=by simpa using h4
    omega
   subst eW;rw[List.drop_length]at cJ;obtain rfl:=sI cJ;exact⟨_,_,⟨H,M,rfl,rfl,hm⟩,Nat.le_of_lt hm.le,Gh.sub (by((repeat refine⟨rfl,?_⟩);exact trivial))⟩
end
end Go.Proofs
