import Derived.LaidEqlPtr
import Derived.Test.YtmflfedkfdkipaaGreatP11
set_option linter.all false
namespace Go.Vx
open Go Go.Rx
section
variable{P:Zt}{T:Tb}(hT:j0 P T)
include hT
theorem z2n{tp te:TypeId}{sz:Nat}(hd:T.und tp=some (.pointer te))(hs:cD T te=some (sz+1))(d:Nat){a b:Addr}{ca cb:Nr Value}{ta tb:TypeId}(w:Xt)(ha:w.heap[a.block]? = some (.cells ca ta (0,0)))(hb:w.heap[b.block]? = some (.cells cb tb (0,0))):
  (Op.equalIn (d+1) tp (.pointer (some a)) (.pointer (some b))).run P w=.ok (decide (a=b)) w:=by by_cases e:a=b;subst e;simp[Op.equalIn,kK hT w hd,pS hT w hs,run_sameAddr_same];simp[Op.equalIn,kK hT w hd,pS hT w hs,run_sameAddr_other w e ha hb,e]
theorem z2m{tp te:TypeId}{sz:Nat}(hd:T.und tp=some (.pointer te))(hs:cD T te=some (sz+1)){a b:Addr}{ca cb:Nr Value}{ta tb:TypeId}(w:Xt)(ha:w.heap[a.block]? = some (.cells ca ta (0,0)))(hb:w.heap[b.block]? = some (.cells cb tb (0,0))):
  (Op.equal tp (.pointer (some a)) (.pointer (some b))).run P w=.ok (decide (a=b)) w:=z2n hT hd hs 9999 w ha hb
end
variable{x:Cx}
variable{k:Nat}
variable{l:X U}
variable{e:TypeId}
theorem row_at(hx:iZ x){m:Nm}{w:Xt}(hf:Fits m x.s w){i:Nat}(hg:gt x.V.h k=some (.row l e))(hi:x.I k=some i):m.sh i=0/\∃c,w.heap[m.blk i]? = some (.cells c e (0,0)):=by obtain⟨_,_,j,l',hj,hl,_⟩:=hx.ok k _ hg;rw[hi]at hj;cases hj;have:=hf.ok i _ hl;simp only[vA,yI]at this;exact⟨this.1,_,this.2⟩
variable{e':TypeId}
theorem z8f(hx:iZ x){m:Nm}{w:Xt}(hf:Fits m x.s w){i k' i':Nat}{l':X U}(hg:gt x.V.h k=some (.row l e))(hi:x.I k=some i)(sN:gt x.V.h k'=some (.row l' e'))(i4:x.I k'=some i'):(m.blk i=m.blk i')↔k=k':=by constructor;intro h;obtain⟨_,_,j,r,hj,hl,_⟩:=hx.ok k _ hg;rw[hi]at hj;cases hj;obtain⟨_,_,j',r',tR,BG,_⟩:=hx.ok k' _ sN;rw[i4]at tR;cases tR;by_cases e:i=i';subst e;exact hx.inj k k' _ _ i hg sN hi i4;exact absurd h (hf.inj i i' _ _ hl BG e rfl);rintro rfl;rw[hi]at i4;cases i4;rfl
theorem Oq{v:Value}(hg:gt x.V.h k=some (.row l e))(hr:aC x (.ptr k 0 0) v):∃i,x.I k=some i/\v=.pointer (some ⟨i,0,none⟩):=by simp only[aC]at hr;obtain⟨_,h2⟩:=hr.2.2 _ hg;exact h2 rfl
section
variable{C:PG}{T:Tb}(hT:j0 C.prog T)
include hT
theorem fN.peq{V:Sg}{tm:X U}{o:Oper}{b:BinOp}{t ty te:TypeId}{sz k':Nat}{xo yo:Ws}{l':X U}(ho:o.op=.binOp b t xo yo ty)(hb:b=.eql\/b=.neq)(hd:T.und t=some (.pointer te))(hs:cD T te=some (sz+1))(hx:cG tm xo=some (.ptr k 0 0))(hy:cG tm yo=some (.ptr k' 0 0))(hg:gt V.h k=some (.row l e))(sN:gt V.h k'=some (.row l' e')):
  fN C V tm o (fun u V'=>u=.bool (if b=.eql then Nat.beq k k' else !Nat.beq k k')/\V'=V):=fun F x tv m w a next Q fH st hG hn ro eZ=>by
 subst fH;obtain⟨vx,ex,rx⟩:=jD st.e hx;obtain⟨vy,ey,ry⟩:=jD st.e hy;obtain⟨i,hi,rfl⟩:=Oq hg rx;obtain⟨i',i4,rfl⟩:=Oq sN ry;have hf:=st.fits.fits;obtain⟨s1,c1,h1⟩:=row_at st.h hf hg hi;obtain⟨s2,c2,h2⟩:=row_at st.h hf sN i4;have Cz:decide ((⟨m.blk i,m.sh i+0,none⟩:Addr)=⟨m.blk i',m.sh i'+0,none⟩)=Nat.beq k k':=by rw[s1,s2,beq_eq];have:=z8f st.h hf hg hi sN i4;by_cases e:k=k';rw[decide_eq_true e,this.2 e];simp;have h3:m.blk i≠m.blk i':=fun h=>e (this.1 h);rw[decide_eq_false e];simp[h3]
 have U3:a.eval xo=.pointer (some ⟨m.blk i,m.sh i+0,none⟩):=by have he:=(st.act.evalO ex).at;simp only[ren]at he;exact he.symm
 have Dd:a.eval yo=.pointer (some ⟨m.blk i',m.sh i'+0,none⟩):=by have he:=(st.act.evalO ey).at;simp only[ren]at he;exact he.symm
 have hp:=z2m hT hd hs (a:=⟨m.blk i,m.sh i+0,none⟩) (b:=⟨m.blk i',m.sh i'+0,none⟩) w h1 h2;rw[Cz]at hp;simp only[Nat.add_zero]at hp;have dG:(execOp a.eval o).run C.prog w=.ok (.value (.bool (if b=.eql then Nat.beq k k' else !Nat.beq k k'))) w:=by simp only[execOp,ho,U3,Dd];rcases hb with rfl |rfl;simp[eqGuard,binOp,hp];simp[eqGuard,binOp,hp]
 refine wH (by rw[ho];intro c hc;cases hc) ?_;unfold Oper.wp;rw[dG];have aS:=bT.refl st.fits;exact hn _ x (BY tv o.dst (.bool (if b=.eql then Nat.beq k k' else !Nat.beq k k'))) m w _ ⟨rfl,rfl⟩ ⟨st.h,st.fr,KV st.e (by simp[aC]) _,st.fits,st.act.put (NQ fun _=>by simp[ren]) o.dst⟩ aS (Ke.refl _ _) (zF _) (HB _ _ _)
end
def pE(e:Nat×U×Nat):ME:=⟨.ptr e.1 0 0,e.2.1,e.2.2⟩
def vL(k:Nat):X (Nat×U×Nat)->Y U
 |[]=>none|e::es=>cond (Nat.beq e.1 k) (some e.2.1) (vL k es)
def isRow(h:X (Nat×B))(k:Nat):Prop:=∃l e,gt h k=some (.row l e)
theorem w9.uncons{e:ME}{es:X ME}{vs:X MapEntry}(h:w9 x (e::es) vs):∃v sT,vs=v::sT/\aC x e.key v.key/\aC x e.val v.val/\v.born=e.born/\w9 x es sT:=by obtain⟨h1,h2⟩:=h;rcases vs with _|⟨v,vs⟩;simp at h1;obtain⟨v',e1,e2,e3,e4⟩:=h2 0 e rfl;simp at e1;subst e1;refine⟨v,vs,rfl,e2,e3,e4,by simpa using h1,fun i e he=>?_⟩;have:=h2 (i+1) e (by simpa using he);simpa using this
section
variable{P:Zt}{T:Tb}(hT:j0 P T){x:Cx}(hx:iZ x){m:Nm}{w:Xt}(hf:Fits m x.s w){kt te:TypeId}{sz:Nat}(hd:T.und kt=some (.pointer te))(hs:cD T te=some (sz+1))
include hT hx hf hd hs
theorem quf{k i0:Nat}(hk:isRow x.V.h k)(hi:x.I k=some i0):∀(es:X (Nat×U×Nat))(vs:X MapEntry)(i:Nat),(∀e∈es,isRow x.V.h e.1)->w9 x (es.map pE) vs->
  ∃r,(Instr.findAsking kt (.pointer (some ⟨m.blk i0,m.sh i0,none⟩)) (vs.map (y9 m)) i).run P w=.ok r w/\(vL k es=none->r=none)/\∀u,vL k es=some u->∃j v,v∈vs/\r=some (j,ren m v.val)/\aC x u v.val
 |[],vs,i,_,hr=>by
  have:vs=[]:=by have:=hr.1;simpa using this.symm
  subst this;exact⟨none,by simp[Instr.findAsking],fun _=>rfl,fun u hu=>by simp[vL]at hu⟩
 |e::es,vs,i,he,hr=>by
  obtain⟨v,vs,rfl,Ci,hv1,_,Br⟩:=w9.uncons hr;obtain⟨l,t,hg⟩:=hk;obtain⟨l',t',sN⟩:=he e qq4;obtain⟨i1,Ku,jR⟩:=Oq sN Ci;obtain⟨s1,c1,h1⟩:=row_at hx hf hg hi;obtain⟨s2,c2,h2⟩:=row_at hx hf sN Ku;have hq:=z2m hT hd hs (a:=⟨m.blk i0,m.sh i0,none⟩) (b:=⟨m.blk i1,m.sh i1+0,none⟩) w h1 h2;have Cz:decide ((⟨m.blk i0,m.sh i0,none⟩:Addr)=⟨m.blk i1,m.sh i1+0,none⟩)=Nat.beq e.1 k:=by rw[s1,s2,beq_eq];have:=z8f hx hf hg hi sN Ku;by_cases LY:k=e.1;rw[decide_eq_true (show e.1=k from LY.symm),this.2 LY];simp;have h3:m.blk i0≠m.blk i1:=fun h=>LY (this.1 h);rw[decide_eq_false (show ¬ e.1=k from fun h=>LY h.symm)];simp[h3]
  rw[Cz]at hq;obtain⟨r,g1,g2,g3⟩:=quf ⟨l,t,hg⟩ hi es vs (i+1) (fun e zR=>he e (by simp[zR])) Br;have Wd:ren m v.key=.pointer (some ⟨m.blk i1,m.sh i1+0,none⟩):=by simp[jR,ren]
  cases hb:Nat.beq e.1 k with|true=>rw[hb]at hq;refine⟨some (i,ren m v.val),?_,fun h=>?_,fun u hu=>?_⟩;simp only[zQ,Instr.findAsking,y9,Wd,zK,hq,zJ,if_true,zL];simp[vL,hb]at h;simp only[vL,hb,zC,zA]at hu;subst hu;exact⟨i,v,by simp,rfl,hv1⟩|false=>rw[hb]at hq;refine⟨r,?_,fun h=>?_,fun u hu=>?_⟩;simp only[zQ,Instr.findAsking,y9,Wd,zK,hq,zJ,Bool.false_eq_true,if_false];exact g1;simp only[vL,hb,zD]at h;exact g2 h;simp only[vL,hb,zD]at hu;obtain⟨j,v',q1,q2,q3⟩:=g3 u hu;exact⟨j,v',by simp[q1],q2,q3⟩
theorem qqt{i0:Nat}(hk:isRow x.V.h k)(hi:x.I k=some i0)(es:X (Nat×U×Nat))(vs:X MapEntry)(he:∀e∈es,isRow x.V.h e.1)(hr:w9 x (es.map pE) vs):
  ∃r,(Instr.findKey kt (.pointer (some ⟨m.blk i0,m.sh i0,none⟩)) (vs.map (y9 m))).run P w=.ok r w/\(vL k es=none->r=none)/\∀u,vL k es=some u->∃j v,v∈vs/\r=some (j,ren m v.val)/\aC x u v.val:=by
 obtain⟨r,h1,h2,h3⟩:=quf hT hx hf hd hs hk hi es vs 0 he hr;refine⟨r,?_,h2,h3⟩;unfold Instr.findKey;simp only[zK,kK hT w hd,zJ];cases vs with
 |nil=>simp only[List.map_nil,Instr.findAsking,zL,Result.ok.injEq,and_true]at h1;subst h1;simp[Instr.findNow]|cons v vs=>simp only[zQ,Instr.findNow,Instr.sameNow];exact h1
omit hx hf hs in
theorem i?(b:DC)(n:Nat)(v:Value):(Instr.checkKey b (n+1) kt v).run P w=.ok () w:=by simp[Instr.checkKey,kK hT w hd]
end
section
variable{C:PG}{T:Tb}(hT:j0 C.prog T)
include hT
variable{V:Sg}
variable{tm:X U}
variable{o:Oper}
variable{t:TypeId}
variable{sz:Nat}
variable{xo:Ws}
theorem fN.plook{kt et te:TypeId}{r a' b' cl:Nat}{z:Value}{zu:U}{ko:Ws}{ok:DC}{es:X (Nat×U×Nat)}(ho:o.op=.lookup t xo ko ok)(hd:T.und t=some (.map kt et))(hk:T.und kt=some (.pointer te))(hs:cD T te=some (sz+1))
  (hz:T.inf et=some (a',b',z)) (hzu:jO z=some zu) (hx:cG tm xo=some (.map r)) (hy:cG tm ko=some (.ptr k 0 0)) (hg:gt V.h r=some (.map (es.map pE) cl)) (eA:isRow V.h k) (hes:∀e∈es,isRow V.h e.1):
  fN C V tm o (fun u V'=>u=(match vL k es with |some v=>cond ok (.tup [v,.bool true]) v |none=>cond ok (.tup [zu,.bool false]) zu)/\V'=V):=fun F x tv m w a next Q fH st hG hn ro eZ=>by
 subst fH;obtain⟨vx,ex,rx⟩:=jD st.e hx;obtain⟨vy,ey,ry⟩:=jD st.e hy;obtain⟨l0,e0,TW⟩:=eA;obtain⟨i0,hi0,rfl⟩:=Oq TW ry;obtain⟨i,es',h1,rfl,h3,h4,uH⟩:=z7u (m:=.map r) st.h rx hg;have hf:=st.fits.fits;have U3:a.eval xo=.map (some (m.blk i)):=by have he:=(st.act.evalO ex).at;simp only[ren]at he;exact he.symm
 have Dd:a.eval ko=.pointer (some ⟨m.blk i0,m.sh i0,none⟩):=by have he:=(st.act.evalO ey).at;simp only[ren,Nat.add_zero]at he;exact he.symm
 have BE:w.heap[m.blk i]? = some (.map (es'.map (y9 m)).toArray cl):=hf.ok i _ h3;have dC:=qnf st.fits uH;obtain⟨r,g1,g2,g3⟩:=qqt hT st.h hf hk hs ⟨l0,e0,TW⟩ hi0 es es' hes h4;obtain⟨hz1,Kc⟩:=NH hT m w hz;have CF:=(Y2 _ _ hzu).2 x;have key:∃v,(execOp a.eval o).run C.prog w=.ok (.value (ren m v)) w/\(∀m',aN x.s.nx m m'->ren m' v=ren m v)/\aC x (match vL k es with |some v=>cond ok (.tup [v,.bool true]) v |none=>cond ok (.tup [zu,.bool false]) zu) v:=by
  cases hp:vL k es with
  |none=>have:=g2 hp;subst this;refine⟨cond ok (.tuple #[z,.bool false]) z,?_,fun m' ha=>?_,?_⟩;simp only[execOp,ho,U3,Dd,Instr.lookup,zK,kK hT w hd,zJ,Rx.run_getObj_map BE,i? hT hk,g1,zL,hz1];cases ok;simp[Kc];simp[ren,aJ,Kc];have q1:=(NH hT m' w hz).2;cases ok;simp only[zD];rw[q1,Kc];simp only[zC,ren,uA,aJ];rw[q1,Kc];cases ok;exact CF;simp only[zC,aC];exact⟨_,rfl,by simp[cA,aC];exact CF,rfl⟩|some u=>
   obtain⟨j,v,q1,rfl,q3⟩:=g3 u hp;have hsv:∀m',aN x.s.nx m m'->ren m' v.val=ren m v.val:=fun m' ha=>by have h5:=dC m' ha;have h6:=List.map_inj_left.1 h5 v q1;simp only[y9,MapEntry.mk.injEq]at h6;exact h6.2.1
   refine⟨cond ok (.tuple #[v.val,.bool true]) v.val,?_,fun m' ha=>?_,?_⟩;simp only[execOp,ho,U3,Dd,Instr.lookup,zK,kK hT w hd,zJ,Rx.run_getObj_map BE,i? hT hk,g1,zL];cases ok;simp;simp[ren,aJ];cases ok;exact hsv m' ha;simp only[zC,ren,uA,aJ];rw[hsv m' ha];cases ok;exact q3;simp only[zC,aC];exact⟨_,rfl,by simp[cA,aC];exact q3,rfl⟩
 obtain⟨v,k1,k2,k3⟩:=key;refine wH (by rw[ho];intro c hc;cases hc) ?_;unfold Oper.wp;rw[k1];exact hn _ x (BY tv o.dst v) m w _ ⟨rfl,rfl⟩ ⟨st.h,st.fr,KV st.e k3 _,st.fits,st.act.put k2 o.dst⟩ (bT.refl st.fits) (Ke.refl _ _) (zF _) (HB _ _ _)
theorem fN.pins{kt et te:TypeId}{r cl:Nat}{v:U}{ko vo:Ws}{es:X (Nat×U×Nat)}(ho:o.op=.mapUpdate t xo ko vo\/o.op=.insert t xo ko vo)(hd:T.und t=some (.map kt et))(hk:T.und kt=some (.pointer te))(hs:cD T te=some (sz+1))
  (hx:cG tm xo=some (.map r)) (hy:cG tm ko=some (.ptr k 0 0)) (hv:cG tm vo=some v) (hg:gt V.h r=some (.map (es.map pE) cl)) (eA:isRow V.h k) (hes:∀e∈es,isRow V.h e.1) (hp:vL k es=none):
  fN C V tm o (fun u V'=>u=.junk/\V'=⟨ug V.h r (.map ((es++[(k,v,cl)]).map pE) (cl+1)),V.nx⟩):=fun F x tv m w a next Q fH st hG hn ro eZ=>by
 subst fH;obtain⟨vx,ex,rx⟩:=jD st.e hx;obtain⟨vy,ey,ry⟩:=jD st.e hy;obtain⟨vv,ev,rv⟩:=jD st.e hv;have ry0:=ry;obtain⟨l0,e0,TW⟩:=eA;obtain⟨i0,hi0,rfl⟩:=Oq TW ry;obtain⟨i,es',h1,rfl,h3,h4,uH⟩:=z7u (m:=.map r) st.h rx hg;have hf:=st.fits.fits;have U3:a.eval xo=.map (some (m.blk i)):=by have he:=(st.act.evalO ex).at;simp only[ren]at he;exact he.symm
 have Dd:a.eval ko=.pointer (some ⟨m.blk i0,m.sh i0,none⟩):=by have he:=(st.act.evalO ey).at;simp only[ren,Nat.add_zero]at he;exact he.symm
 have BE:w.heap[m.blk i]? = some (.map (es'.map (y9 m)).toArray cl):=hf.ok i _ h3;have dC:=qnf st.fits uH;obtain⟨r',g1,g2,_⟩:=qqt hT st.h hf hk hs ⟨l0,e0,TW⟩ hi0 es es' hes h4;have:=g2 hp;subst this;obtain⟨w₁,e1,aS⟩:=zah (P:=C.prog) st.fits uH (es':=es'++[{ key:=.pointer (some ⟨i0,0,none⟩),val:=vv,born:=cl }]) (cl':=cl+1) (ces:=es'.map (y9 m)++[{ key:=.pointer (some ⟨m.blk i0,m.sh i0,none⟩),val:=a.eval vo,born:=cl }]) (fun m' ha=>by have q1:=(st.act.evalO ey) m' ha;have q2:=(st.act.evalO ev) m' ha;rw[Dd]at q1;simp only[List.map_append,zQ,List.map_nil,dC m' ha,y9,q1,q2]);have dG:(execOp a.eval o).run C.prog w=.ok .skip w₁:=by
  have hr1:(Instr.mapUpdate t (a.eval xo) (a.eval ko) (a.eval vo)).run C.prog w=.ok () w₁:=by simp only[U3,Dd,Instr.mapUpdate,zK,kK hT w hd,zJ,Rx.run_getObj_map BE,i? hT hk,g1];rw[<-e1];simp
  rcases ho with ho |ho;simp only[execOp,ho,zK,hr1,zJ,zL];simp only[execOp,ho,zK,hr1,zJ,zL]
 have kN:=z9m st.h hg h1 h3 (h4.snoc (k:=.ptr k 0 0) (v:=v) ry0 rv cl) (cl1:=cl+1);refine wH (by rcases ho with ho |ho<;>(rw[ho];intro c hc;cases hc)) ?_;unfold Oper.wp;rw[dG];have em:(es.map pE++[⟨.ptr k 0 0,v,cl⟩])=(es++[(k,v,cl)]).map pE:=by simp[pE]
 rw[em]at kN;exact hn _ ⟨x.I,z09 x.V r ((es++[(k,v,cl)]).map pE) (cl+1),ai x.s i (es'++[{ key:=.pointer (some ⟨i0,0,none⟩),val:=vv,born:=cl }]) (cl+1)⟩ (BY tv o.dst undef) m w₁ _ ⟨rfl,rfl⟩
  ⟨kN.h,kN.fr F st.fr,KV (kN.mo.ke.E st.e.bel st.e) (by simp[aC]) _,aS.fits,(st.act.ext aS.agree aS.nx).put (NQ fun _=>by simp[undef,ren,aJ]) o.dst⟩ aS kN.mo.ke kN.mo.nx (HB _ _ _)
theorem fN.cut0{K st off:Nat}{lo:Ws}(ho:o.op=.slice t xo (some lo) none none)(hd:T.und t=some (.slice e))(hs:cD T e=some (sz+1))(hx:cG tm xo=some (.vl K st off 1))(hl:cG tm lo=some (.int .i64 1))
  (hg:gt V.h K=some (.vec l e' (sz+1) st)) (aQ:(off+1)*(sz+1)<=l.length):
  fN C V tm o (fun u V'=>(u=.vl K (st+1) 0 0/\V'=⟨ug V.h K (.vec [] e' (sz+1) (st+1)),V.nx⟩)\/(u=.isl true []/\V'=V)):=fun F x tv m w a next Q fH bJ hG hn ro eZ=>by
 subst fH;obtain⟨vx,ex,rx⟩:=jD bJ.e hx;obtain⟨vl,el,rl⟩:=jD bJ.e hl;simp only[aC]at rl;subst rl;simp only[aC]at rx;obtain⟨_,hK,h0⟩:=rx;obtain⟨l2,e2,sz2,hb,tB⟩:=(h0 _ hg).2 rfl;cases hb;obtain⟨_,hBk⟩:=bJ.h.ok K _ hg;obtain⟨_,_,hB⟩:=hBk;rcases hB with⟨gv,_⟩|⟨i,l',jG,FO,hE⟩;rw[gv]at aQ;simp at aQ;rw[jG]at tB;simp only[K5]at tB;rcases tB with⟨_,hbad,_⟩|rfl;omega;have hf:=bJ.fits.fits;obtain⟨pre,rest,nZ,nX,iU⟩:=(hf.ok i _ FO:yI m i _ e' w (sz+1+2));have rL:l'.length=l.length:=hE.2.symm;have Xd:1<=m.cp i-off:=by
  have h1:(off+1)*(sz+1)<=m.cp i*(sz+1):=by omega
  have:=Nat.le_of_mul_le_mul_right h1 qq0;omega
 have Xc:dM m i (cV+off)=m.cp i-off:=by
  have h:¬ cV+off<cV:=by omega
  simp[dM,cR,h]
 have U3:a.eval xo=.slice (some ⟨m.blk i,m.sh i+off*(sz+1),none⟩) 1 (m.cp i-off):=by have he:=(bJ.act.evalO ex).at;simp only[ren,Xc]at he;exact he.symm
 have lT:a.eval lo=.int .i64 1:=by have he:=(bJ.act.evalO el).at;simp only[ren]at he;exact he.symm
 have hb:mV 1 1 (some (.int .i64 1)) none=some (1,1,1):=by decide
 obtain⟨b1,_⟩:=Pt (P:=C.prog) (isS:=true) m w hb Xd;simp only[zM,Option.map_none,ren,Option.isSome_none,Bool.false_eq_true,if_false]at b1;have dG:(execOp a.eval o).run C.prog w=.ok (.value (.slice (if m.cp i-off=1 then some ⟨m.blk i,m.sh i+off*(sz+1),none⟩else some ⟨m.blk i,m.sh i+off*(sz+1)+1*(sz+1),none⟩) 0 (m.cp i-off-1))) w:=by simp only[execOp,ho,U3,zM,Option.map_none,lT,Instr.sliceAt,zK,kK hT w hd,zJ,Instr.slice,b1,pS hT w hs,zL,FC]
 refine wH (by rw[ho];intro c hc;cases hc) ?_;unfold Oper.wp;rw[dG];have IH:=bJ.h.bd i _ FO;by_cases hC:m.cp i-off=1;rw[if_pos hC,hC];exact hn (.isl true []) x (BY tv o.dst (.slice (some ⟨i,off*(sz+1),none⟩) 0 0)) m w _ (.inr ⟨rfl,rfl⟩) ⟨bJ.h,bJ.fr,KV bJ.e (by simp only[aC];exact .inr ⟨i,off*(sz+1),0,rfl,(fun _=>⟨rfl,by simp[cV]⟩),.inl trivial⟩) _,bJ.fits,bJ.act.put (fun m' ha=>by obtain⟨q1,q2,_⟩:=ha i IH;simp[ren,q1,q2,dM,cV]) o.dst⟩ (bT.refl bJ.fits) (Ke.refl _ _) (zF _) (HB _ _ _);rw[if_neg hC];have aS:bT m x.s w (m.set x.s.nx (m.blk i) (m.sh i+off*(sz+1)+1*(sz+1)) (m.cp i-off-1)) ⟨(x.s.nx,.inl ([],e',sz+1+2))::rm x.s.h i,x.s.nx+1⟩ w:=bT.rename bJ.fits FO rfl _ _ (fun _ _=>rfl) rfl rfl rfl rfl (zF _) fun m' ha=>by
  obtain⟨tU,FX,PM⟩:=ha x.s.nx (zN _);obtain⟨e1,e2,e3⟩:=C4 m x.s.nx (m.blk i) (m.sh i+off*(sz+1)+1*(sz+1)) (m.cp i-off-1);have pG:(pre++aJ m l'++rest).length=m.sh i+m.cp i*(sz+1):=by simp[nX];omega
  have hmul:m.cp i*(sz+1)=off*(sz+1)+1*(sz+1)+(m.cp i-off-1)*(sz+1):=by rw[<-Nat.add_mul,<-Nat.add_mul];congr 1;omega
  refine⟨(pre++aJ m l'++rest).take (m.sh i+off*(sz+1)+1*(sz+1)),(pre++aJ m l'++rest).drop (m.sh i+off*(sz+1)+1*(sz+1)),?_,?_,?_⟩;rw[tU,e1,nZ];simp[aJ];rw[FX,e2,List.length_take,pG];omega;rw[PM,e3,List.length_drop,pG];simp only[zS];omega
 have I2:=Pa bJ.h hg (l1:=[]) (some x.s.nx) ⟨(x.s.nx,.inl ([],e',sz+1+2))::rm x.s.h i,x.s.nx+1⟩ (fun j b hj cP=>by
   have h1:x.s.nx≠j:=by have:=bJ.h.bd j b hj;omega
   have h2:i≠j:=fun h=>cP (by rw[jG,h]);simp only[mK,h1,if_false,Ge,h2];exact hj)
  (fun j hj=>by cases hj;exact .inr (zF _))
  (fun j b hj=>by simp only[mK]at hj;by_cases h1:x.s.nx=j;show j<x.s.nx+1;omega;simp only[h1,if_false,Ge]at hj;by_cases h2:i=j;simp[h2]at hj;simp only[h2,if_false]at hj;have:=bJ.h.bd j b hj;show j<x.s.nx+1;omega)
  rfl (fun y _ _=>.inr ⟨x.s.nx,[],rfl,by simp[mK],bA.nil _⟩)
 exact hn (.vl K (st+1) 0 0) ⟨mA x.I K (some x.s.nx),⟨ug x.V.h K (.vec [] e' (sz+1) (st+1)),x.V.nx⟩,⟨(x.s.nx,.inl ([],e',sz+1+2))::rm x.s.h i,x.s.nx+1⟩⟩ (BY tv o.dst (.slice (some ⟨x.s.nx,0,none⟩) 0 cV)) _ w _ (.inl ⟨rfl,rfl⟩)
  ⟨I2.h,I2.fr F bJ.fr,KV (I2.mo.ke.E bJ.e.bel bJ.e) (Oo bJ.h hg rfl (.inr qq4)) _,aS.fits,(bJ.act.ext aS.agree aS.nx).put (YQ (zN _) fun m' ha=>by rw[Qe];obtain⟨_,_,e3⟩:=C4 m x.s.nx (m.blk i) (m.sh i+off*(sz+1)+1*(sz+1)) (m.cp i-off-1);exact(ha x.s.nx (zN _)).2.2.trans e3) o.dst⟩ aS I2.mo.ke I2.mo.nx (HB _ _ _)
end
def Gj(p:Nat->Prop):X Nat->Prop
 |[]=>True|i::l=>p i/\Gj p l
theorem Gj.mem{p:Nat->Prop}:∀{l:X Nat},Gj p l->∀i∈l,p i
 |j::l,h,i,hi=>by rcases zI.1 hi with rfl |hi;exact h.1;exact Gj.mem h.2 i hi
def M9(C:PG)(T:Tb)(aA:Nr Oper)(n0 n:Nat)(l:X (Nat×U))(V:Sg)(K:X (Nat×U)->Sg->Prop)(i:Nat): Prop :=
  ∃o,nth aA.toList i=some o/\c9 aA.toList (fr n l) o=some true/\bq n o.dst=true/\ ((∃u s1,bI T V (fr n l) o.op=some (u,s1)/\∃l' V',Gh n0 (fr n (VX l o.dst u)) s1 (fr n l') V'/\n0<=V'.nx/\K l' V')\/ (∃f args R,jM T (fr n l) o.op=some (f,args)/\aW C.prog f args V R/\∀u s1,R u s1->∃l' V',Gh n0 (fr n (VX l o.dst u)) s1 (fr n l') V'/\n0<=V'.nx/\K l' V')\/ (∃R,fN C V (fr n l) o R/\∀u s1,R u s1->∃l' V',Gh n0 (fr n (VX l o.dst u)) s1 (fr n l') V'/\n0<=V'.nx/\K l' V'))
def AD:X DC->Nat->DC
 |[],_=>false|b::_,0=>b
 |_::l,k+1=>AD l k
theorem Pe:∀(d:X DC)(k:Nat),AD d k=d.toArray.getD k false
 |[],k=>by simp[AD,Array.getD]
 |b::d,0=>by simp[AD,Array.getD]
 |b::d,k+1=>by rw[AD,Pe d k];simp[Array.getD]
def okA(d:X DC):X Edge->DC
 |[]=>true|e::l=>cond (Region.binds .any e) (cond (AD d e.on) (okA d l) false) (okA d l)
theorem og(d:X DC):∀(l:X Edge),okA d l=true↔∀e∈l,Region.binds .any e=true->d.toArray.getD e.on false=true
 |[]=>by simp[okA]
 |e::l=>by have ih:=og d l;rw[okA];rcases hb:Region.binds .any e with _|_;rw[zD,ih];exact⟨fun h x hx cK=>by rcases zI.1 hx with rfl |hx;(rw[hb]at cK;cases cK);exact h x hx cK,fun h x hx=>h x (List.mem_cons_of_mem _ hx)⟩;rw[zC];rcases hn:AD d e.on with _|_;rw[zD];exact⟨fun h=>(by cases h),fun h=>by have:=h e qq4 hb;rw[<-Pe,hn]at this;cases this⟩;rw[zC,ih];exact⟨fun h x hx cK=>by rcases zI.1 hx with rfl |hx;(rw[<-Pe];exact hn);exact h x hx cK,fun h x hx=>h x (List.mem_cons_of_mem _ hx)⟩
def GL(d:X DC):Nat->X Oper->X Nat
 |_,[]=>[]|i,o::os=>cond (AD d i) (GL d (i+1) os) (cond (okA d o.after.toList) (i::GL d (i+1) os) (GL d (i+1) os))
theorem z24(d:X DC): ∀(os:X Oper)(i j:Nat),j∈GL d i os↔∃k o,j=i+k/\os[k]? = some o/\AD d j=false/\okA d o.after.toList=true
  |[],i,j=> by simp[GL]
  |o::os,i,j=> by
    have ih:=z24 d os (i+1) j;have tl:(∃k o',j=i+1+k/\os[k]? = some o'/\AD d j=false/\okA d o'.after.toList=true)->∃k o',j=i+k/\(o::os)[k]? = some o'/\AD d j=false/\okA d o'.after.toList=true:=fun⟨k,o',h1,h2,h3⟩=> ⟨k+1,o',by omega,by simpa using h2,h3⟩;have ht:(∃k o',j=i+k/\(o::os)[k]? = some o'/\AD d j=false/\okA d o'.after.toList=true)->(j=i/\AD d i=false/\okA d o.after.toList=true)\/∃k o',j=i+1+k/\os[k]? = some o'/\AD d j=false/\okA d o'.after.toList=true:=fun⟨k,o',h1,h2,h3,h4⟩=> by
      cases k with
      | zero => simp at h2; subst h2; have : j = i := by omega
                subst this;exact .inl ⟨rfl,h3,h4⟩
      |succ k=> exact .inr ⟨k,o',by omega,by simpa using h2,h3,h4⟩
    rw[GL];cases hn:AD d i with
    |true=> rw[zC,ih];exact⟨tl,fun h=> (ht h).elim (fun q=> by rw[hn]at q;cases q.2.1) id⟩|false=>rw[zD];rcases hk:okA d o.after.toList with _|_;rw[zD,ih];exact⟨tl,fun h=> (ht h).elim (fun q=> by rw[hk]at q;cases q.2.2) id⟩;rw[zC,zI,ih];exact⟨fun h=> h.elim (fun q=> ⟨0,o,by omega,rfl,by rw[q];exact hn,hk⟩) tl,fun h=> (ht h).imp (·.1) id⟩
theorem nh(aA:Nr Oper)(d:X DC)(hd:d.length=aA.size)(i:Nat):i∈Region.ready .any aA d.toArray↔i∈GL d 0 aA.toList:=by
 rw[z24];unfold Region.ready;rw[List.mem_filter,List.mem_range];constructor;rintro⟨hi,h⟩;have ho:aA[i]? = some aA[i]:=by simp[hi]
 simp only[ho,zM,Option.getD_some,Bool.and_eq_true,Bool.not_eq_true',Array.all_eq_true_iff_forall_mem,Bool.or_eq_true]at h;refine⟨i,aA[i],by omega,by simpa using ho,?_,(og d _).2 fun e he hb=>?_⟩;rw[Pe];have h1:=h.1;have hl:i<d.length:=by omega
 simpa[Array.getD,hl]using h1;rcases h.2 e (by simpa using he)with h1 |h1;simp[hb]at h1;exact h1;rintro⟨k,o,rfl,h1,h2,h3⟩;rw[Nat.zero_add]at h2 ⊢;have ho:aA[k]? = some o:=by simpa using h1
 have hi:k<aA.size:=(Array.getElem?_eq_some_iff.1 ho).1;refine⟨hi,?_⟩;simp only[ho,zM,Option.getD_some,Bool.and_eq_true,Bool.not_eq_true',Array.all_eq_true_iff_forall_mem,Bool.or_eq_true];refine⟨?_,fun e he=>?_⟩;rw[Pe]at h2;have hl:k<d.length:=by omega
 simpa[Array.getD,hl]using h2;rcases hb:Region.binds .any e with _|_;exact .inl rfl;exact .inr ((og d _).1 h3 e (by simpa using he) hb)
def RI(C:PG)(T:Tb)(aA:Nr Oper)(n0 n:Nat)(Q:Exit->X U->Sg->Prop):Nat->X DC->X (Nat×U)->Sg->Prop
 |0,d,l,V=>GL d 0 aA.toList=[]/\∃l' V',Gh n0 (fr n l) V (fr n l') V'/\n0<=V'.nx/\Q .normal (fr n l') V'|k+1,d,l,V=>(GL d 0 aA.toList).isEmpty=false/\Gj (fun j=>M9 C T aA n0 n l V (RI C T aA n0 n Q k (d.set j true)) j) (GL d 0 aA.toList)
section
variable{C:PG}{T:Tb}(hT:j0 C.prog T){n0 n:Nat}{aA:Nr Oper}{Q:Exit->X U->Sg->Prop}
include hT
theorem QY{ro:Y Nat}(eZ:C.ro ro){F:Nat->mH->Prop}{x0:Cx}{m0:Nm}{w0:Xt}{E:Exit->Act->Xt->Prop}{df:X Deferred}(M3:VU C n0 x0 m0 w0)(hf0:gE m0 x0.s w0)(hQ:∀y tm tv m w a,Q .normal tm y.V->St F y tm tv m w a->bT m0 x0.s w0 m y.s w->Ke n0 x0 y->n0<=y.V.nx->a.defers=df->E .normal a w):
  ∀(k:Nat)(d:X DC)(a:Act)(w:Xt)(m:Nm)(l:X (Nat×U))(tv:X Value)(x:Cx),d.length=aA.size->RI C T aA n0 n Q k d l x.V->St F x (fr n l) tv m w a->bT m0 x0.s w0 m x.s w->Ke n0 x0 x->n0<=x.V.nx->a.defers=df->wpAnyIn (AF ro) 0 C.prog .any aA E k d.toArray a w:=by
 intro k;induction k with
 |zero=>intro d a w m l tv x hd h st aS iG iR m7;obtain⟨h1,l',V',Cn,CP,hq⟩:=h;obtain⟨z,g1,g2,g3,g4,g5,g6⟩:=Cn F x tv rfl st.h st.fr st.e;have ga:=g1 m w st.fits;refine⟨?_,hQ z _ tv m w a (by rw[g2];exact hq) ⟨g3,g4,g5,ga.fits,st.act.ext ga.agree ga.nx⟩ (aS.trans ga) (iG.trans g6) (by rw[g2];exact CP) m7⟩;refine List.eq_nil_iff_forall_not_mem.2 fun i hi=>?_;rw[nh aA d hd,h1]at hi;cases hi
 |succ k ih=>
  intro d a w m l tv x IL h st aS iG iR m7;obtain⟨hr,he⟩:=h;refine⟨fun Bx=>?_,fun j hj=>?_⟩;exfalso;rcases hq:GL d 0 aA.toList with _|⟨i,q⟩;rw[hq]at hr;cases hr;have:=(nh aA d IL i).2 (by rw[hq];simp);rw[Bx]at this;cases this;rw[nh aA d IL]at hj;obtain⟨o,ho,hw,hd,hs⟩:=Gj.mem he j hj;have ho:aA[j]? = some o:=by rw[kI]at ho;simpa using ho
  rw[show d.toArray.setIfInBounds j true=(d.set j true).toArray by simp];have fin:∀y u dJ aL w₁ bC,(∃l' V',Gh n0 (fr n (VX l o.dst u)) y.V (fr n l') V'/\n0<=V'.nx/\RI C T aA n0 n Q k (d.set j true) l' V')->St F y (eH (fr n l) o.dst u) dJ aL w₁ bC->bT m x.s w aL y.s w₁->Ke x.V.nx x y->bC.defers=a.defers->wpAnyIn (AF ro) 0 C.prog .any aA E k (d.set j true).toArray bC w₁:=fun y u dJ aL w₁ bC ⟨l',V',Cn,CP,hK⟩ bJ cX eS hX=>by rw[sG u hd]at bJ;obtain⟨z,g1,g2,g3,g4,g5,g6⟩:=Cn F y dJ rfl bJ.h bJ.fr bJ.e;have ga:=g1 aL w₁ bJ.fits;exact ih _ bC w₁ aL l' dJ z (by simpa using IL) (by rw[g2];exact hK) ⟨g3,g4,g5,ga.fits,bJ.act.ext ga.agree ga.nx⟩ (aS.trans (cX.trans ga)) (iG.trans ((eS.le iR).trans g6)) (by rw[g2];exact CP) (hX.trans m7)
  unfold wpOpIn;simp only[ho];rw[F_ (st.act m (aN.refl _ _)) aA o,H8 st.e hw];simp only[if_true];rcases hs with⟨u,s1,h1,h2⟩|⟨f,args,R,h1,h2,h3⟩|⟨R,h1,h3⟩;exact wH (RJ h1) (st.op hT o h1 fun y dJ aL w₁ bC e1 bJ cX eS nB hX=>fin y u dJ aL w₁ bC (by rw[e1];exact h2) bJ cX eS hX);exact wH (jo h1) (st.call hT o h1 h2 fun y u dJ aL w₁ bC hR bJ cX eS nB hX=>fin y u dJ aL w₁ bC (h3 u _ hR) bJ cX eS hX);exact h1 F x tv m w a _ _ rfl st ⟨Nat.le_trans M3.nb iR,(M3.adv hf0 aS iG).g⟩ (fun u y dJ aL w₁ bC hR bJ cX eS nB hX=>fin y u dJ aL w₁ bC (h3 u _ hR) bJ cX eS hX) ro eZ
theorem WPU.any{id:Nat}{l lF:X (Nat×U)}{V VF:Sg}(h:Q .normal (fr n lF) VF->RI C T aA n0 n Q aA.size (List.replicate aA.size false) l V)(O:Q .normal (fr n lF) VF):WPU C n0 (.region id aA true) (fr n l) V Q:=fun hn F x tv m w a b0 hx st hG hd ro eZ=>by
 refine wpIn_region_any hT.mixed ?_;rw[show(Array.replicate aA.size false)=(List.replicate aA.size false).toArray by simp];refine QY hT (ro:=ro) eZ (n0:=n0) (F:=F) (x0:=x) (m0:=m) (w0:=w) (df:=a.defers) hG st.fits (fun y tm' dJ m' w' a' hq h2 h3 h4 h5 h6=>⟨y,tm',dJ,m',hq,h2,h3,h4,h5,by rw[h6];exact hd.adv st.fits h3⟩) aA.size _ a _ m l tv x qq4 (hx ▸ h O) ⟨st.h,st.fr,st.e,(bT.draw _ st.fits).fits,st.act⟩ (bT.draw _ st.fits) (Ke.refl _ _) (hx ▸ hn) rfl
end
def oI(V:Sg):Prop:=∀k b,gt V.h k=some b->k<V.nx/\BelB V.nx b
theorem iZ.wf{x:Cx}(h:iZ x):oI x.V:=fun k b hg=>⟨(h.ok k b hg).1,(h.ok k b hg).2.belB⟩
theorem aW.wf{P:Zt}{f:FuncId}{args:X U}{V:Sg}{Q:U->Sg->Prop}(h:oI V->aG V.nx args->aW P f args V Q):aW P f args V Q:=fun F x vs m w cargs hx hh fF he dU hc=>h (hx ▸ hh.wf) (hx ▸ he.bel) F x vs m w cargs hx hh fF he dU hc
variable{N:Nat}
variable{tm:X U}
variable{H:X (Nat×B)}
variable{V:Sg}
theorem Gh.back{n0:Nat}(hw:oI V)(hs:∀k,k<V.nx->gt H k=gt V.h k)(hN:V.nx<=N)(hb:aG V.nx tm)(h0:n0<=V.nx):Gh n0 tm ⟨H,N⟩ tm V:=by
 have h1:∀k,gt (Vx.cut V.nx H) k=gt V.h k:=fun k=>by rw[Y5];by_cases hk:k<V.nx;rw[if_pos hk,hs k hk];rw[if_neg hk];rcases hg:gt V.h k with _|b;rfl;exact absurd (hw k b hg).1 hk
 have h2:Gh n0 tm ⟨H,N⟩ tm ⟨Vx.cut V.nx H,V.nx⟩:=Gh.cutG (V:=⟨H,N⟩) h0 hN hb fun k b hg=>by rw[h1]at hg;exact(hw k b hg).2
 exact h2.trans (Gh.same (V:=⟨Vx.cut V.nx H,V.nx⟩) V.h fun k=>(h1 k).symm)
section
variable{T:Tb}{n:Nat}{l:X (Nat×U)}{rs:X ResultVar}
variable{u:U}
variable{R:U->Sg->Prop}
theorem Td{us:X U}(hw:oI V)(hr:kX T ⟨H,N⟩ (fr n l) rs=some us)(hu:lZ us=u)(hs:∀k,k<V.nx->gt H k=gt V.h k)(hN:V.nx<=N)(hb:aT V.nx u)(hR:R u V):
  (Exit.ret=.normal\/Exit.ret=.ret)/\∃l',kX T ⟨H,N⟩ (fr n l) rs=some l'/\∃u' aU,V.nx<=aU.nx/\Gh V.nx [lZ l'] ⟨H,N⟩ [u'] aU/\R u' aU :=
 ⟨.inr rfl,us,hr,u,V,zF _,by subst hu;exact Gh.back hw hs hN (by simp only[aG,and_true];exact hb) (zF _),hR⟩
variable{o7:Sg}
theorem Tc{us:X U}(hr:kX T V (fr n l) rs=some us)(hu:lZ us=u)(hN:o7.nx<=V.nx)(hR:R u V):
  (Exit.ret=.normal\/Exit.ret=.ret)/\∃l',kX T V (fr n l) rs=some l'/\∃u' aU,o7.nx<=aU.nx/\Gh o7.nx [lZ l'] V [u'] aU/\R u' aU :=
 ⟨.inr rfl,us,hr,u,V,hN,by subst hu;exact Gh.refl _ _ _,hR⟩
variable{a:Tmp}
variable{t:X ResultVar}
theorem th(hw:oI V)(ht:rs=.tmp a::t)(h:bM n l (.tmp a)=some u)(h0:t=[])(hs:∀k,k<V.nx->gt H k=gt V.h k)(hN:V.nx<=N)(hb:aT V.nx u)(hR:R u V):
  (Exit.ret=.normal\/Exit.ret=.ret)/\∃l',kX T ⟨H,N⟩ (fr n l) rs=some l'/\∃u' aU,V.nx<=aU.nx/\Gh V.nx [lZ l'] ⟨H,N⟩ [u'] aU/\R u' aU:=by subst ht;subst h0;exact Td hw (dT h eD) rfl hs hN hb hR
theorem XV{b:Tmp}{v:U}(hw:oI V)(ht:rs=.tmp a :: .tmp b::t)(h:bM n l (.tmp a)=some u)(h':bM n l (.tmp b)=some v)(h0:t=[])(hs:∀k,k<V.nx->gt H k=gt V.h k)(hN:V.nx<=N)(hb:aT V.nx (.tup [u,v]))(hR:R (.tup [u,v]) V):
  (Exit.ret=.normal\/Exit.ret=.ret)/\∃l',kX T ⟨H,N⟩ (fr n l) rs=some l'/\∃u' aU,V.nx<=aU.nx/\Gh V.nx [lZ l'] ⟨H,N⟩ [u'] aU/\R u' aU:=by subst ht;subst h0;exact Td hw (dT h (dT h' eD)) rfl hs hN hb hR
theorem C2(ht:rs=.tmp a::t)(h:bM n l (.tmp a)=some u)(h0:t=[])(hN:o7.nx<=V.nx)(hR:R u V):
  (Exit.ret=.normal\/Exit.ret=.ret)/\∃l',kX T V (fr n l) rs=some l'/\∃u' aU,o7.nx<=aU.nx/\Gh o7.nx [lZ l'] V [u'] aU/\R u' aU:=by subst ht;subst h0;exact Tc (dT h eD) rfl hN hR
theorem Gd{b:Tmp}{v:U}(ht:rs=.tmp a :: .tmp b::t)(h:bM n l (.tmp a)=some u)(h':bM n l (.tmp b)=some v)(h0:t=[])(hN:o7.nx<=V.nx)(hR:R (.tup [u,v]) V):
  (Exit.ret=.normal\/Exit.ret=.ret)/\∃l',kX T V (fr n l) rs=some l'/\∃u' aU,o7.nx<=aU.nx/\Gh o7.nx [lZ l'] V [u'] aU/\R u' aU:=by subst ht;subst h0;exact Tc (dT h (dT h' eD)) rfl hN hR
end
section
variable{T:Tb}{n:Nat}{l:X (Nat×U)}{h:X (Nat×B)}{nx:Nat}{op:Op}
theorem oNc{k off:Nat}{x:Ws}{q:X U}{e:TypeId}(ho:op=.nilCheck x)(hx:bM n l x=some (.ptr k 0 off))[g:eF h k (.row q e)]:bI T ⟨h,nx⟩ (fr n l) op=some (.ptr k 0 off,⟨h,nx⟩):=by subst ho;exact DJ hx (by simp only[live,g.h];rfl)
end
variable{A:Prop}
theorem opn (h:A:=by first
 |exact Go.Vx.oNc rfl rfl
 |exact Go.Vx.opx):A:=h
theorem opm (h:A:=by first
 |exact Go.Vx.oNc rfl rfl
 |exact Go.Vx.opy):A:=h
section
variable{T:Tb}{aA r:X Oper}{o:Oper}{n:Nat}{l:X (Nat×U)}{V V':Sg}{u:U}
theorem RS.on{C:PG}{K:X U->Sg->Prop}{d:Tmp}(hk:RU C T aA r (fr n ((d,u)::l)) V' K)(h:bI T V (fr n l) o.op=some (u,V'):=by exact Go.Vx.opn)(he:o.dst=some d:=by exact rfl)(hw:c9 aA (fr n l) o=some true:=by exact Go.Vx.wA)(hd:Nat.blt d n=true:=by exact rfl):RU C T aA (o::r) (fr n l) V K:=RS.op hw h he hd hk
theorem RD.on{P:Zt}{aZ:X RK}{K:X RK->X U->Sg->Prop}{d:Tmp}(hk:RH P T aA r (fr n ((d,u)::l)) V ((1,⟨fr n l,o,u,false,false,V,V⟩)::aZ) K)(h:bI T V (fr n l) o.op=some (u,V):=by exact Go.Vx.opm)(he:o.dst=some d:=by exact rfl)(hw:c9 aA (fr n l) o=some true:=by exact Go.Vx.wA)(hd:Nat.blt d n=true:=by exact rfl):RH P T aA (o::r) (fr n l) V aZ K:=RD.look hw h he hd hk
end
theorem goN{B:Prop}(h:B)(g:Hd B->A:=by intro h;(repeat' first |refine Go.Vx.gs ?_ |refine Go.Vx.RS.on ?_ |refine Go.Vx.rg1 rfl ?_);exact h.h):A:=g ⟨h⟩
theorem gnN{B:Prop}(h:B)(g:Hd B->A:=by intro h;(repeat' first |refine Go.Vx.gs ?_ |refine Go.Vx.RS.on ?_);exact h.h):A:=g ⟨h⟩
theorem cT{B:Prop}(h:B) (g:Hd B->A:=by
 intro h
 repeat' first
  |(refine Go.Vx.RD.nt rfl rfl rfl ?_ rfl ?_;· first |with_reducible_and_instances assumption |exact rfl)
  |(refine Go.Vx.RD.nf rfl rfl rfl ?_ rfl ?_;· first |with_reducible_and_instances assumption |exact rfl)
  |refine Go.Vx.RD.on ?_
 exact h.h):A:=g ⟨h⟩
variable{K:Nat}
theorem Hc(b:B)(sz:Nat){c:B}(h:BelB K c):fzB K b sz c=c:=by
 cases c with
 |row l e=>simp only[fzB];rw[tO _ _ _ h]|vec l e s st=>simp only[fzB];rw[tO _ _ _ h]
 |map es cl=>simp only[fzB,B.map.injEq,and_true];exact List.map_congr_left (g:=id) (fun e he=>by rw[N9 _ _ _ (h e he).2];rfl)|>.trans qq4
theorem Hh{n k:Nat}(h:n<=k){b:B}(hb:BelB n b):BelB k b:=by
 cases b with
 |row l e=>exact aG.le h _ hb|vec l e s st=>exact aG.le h _ hb
 |map es cl=>exact fun e he=>⟨aT.le h _ (hb e he).1,aT.le h _ (hb e he).2⟩
variable{sz:Nat}
variable{v12:Type}
variable{e:TypeId}
theorem qp{n0 st:Nat}{c:v12->X U}{xs:X v12}{tm':X U}(hw:oI V)(hK:V.nx<=K)(hg:gt H K=some (.bv c xs e sz st))(hs:∀k,k<V.nx->gt H k=gt V.h k)(hN:V.nx<=N)(ht:gU K (.bv c xs e sz st) sz tm=tm')(hb:aG V.nx tm')(h0:n0<=V.nx):Gh n0 tm ⟨H,N⟩ tm' V:=by have h1:Gh n0 tm ⟨H,N⟩ tm' ⟨fzH K (.bv c xs e sz st) sz H,N⟩:=Gh.fz (V:=⟨H,N⟩) K (.bv c xs e sz st) sz hg nofun ht rfl;refine h1.trans (Gh.back hw (fun k hk=>?_) hN hb h0);rw[AP,if_neg qq0,hs k hk];rcases Co:gt V.h k with _|b;rfl;simp only[zM];rw[Hc _ _ (Hh hK (hw k b Co).2)]
instance(priority:=50){h:X (Nat×B)}{K:Nat}{b:B}:VR h K b (ug h K b):=⟨rfl⟩
section
variable{T:Tb}{n:Nat}{l:X (Nat×U)}{h:X (Nat×B)}{nx nx':Nat}{op:Op}
theorem oAe{c:v12->X U}{x y:Ws}{t xt e1 e2:TypeId}{args:Nr Ws}{ts:Nr TypeId}{a off s1 by_:Nat}{z:Value}{ys:X v12}{b:DC}{q:X U}(ho:op=.call { callee:=.builtin .append,args:=args,argTypes:=ts })(ha:args.toList=[x,y])(ht:ts.toList=[t,xt])(hx:bM n l x=some (.sl a off 0 0))(hy:bM n l y=some (.isl b (ys.map c)))[d1:eE T t (.slice e)][d2:eE T xt (.slice e2)][i:iD T e s1 by_ z][g:eF h a (.row q e1)][lc:fX c s1][hn:SuC nx nx'](hp:Nat.ble 1 s1=true)(hq:Nat.ble off q.length=true)(hz:Nat.beq z.cells.toList.length s1=true)(hr:ys.length*by_<=140737488355328/\ys.length<=140737488355328):bI T ⟨h,nx⟩ (fr n l) op=some (.vl nx 0 0 ys.length,⟨(nx,.bv c ys e s1 0)::h,nx'⟩):=by subst ho;have CP:=hn.h;subst CP;obtain⟨sz,rfl⟩:∃sz,s1=sz+1:=⟨s1-1,by have:=zY hp;omega⟩;exact pR (V:=⟨h,nx⟩) ha ht hx hy (YE c ys d1.h d2.h i.h hz (by simp only[rowOf,g.h]) hq (ND c lc.h) hr)
end
theorem WPU.wf{C:PG}{n0:Nat}{c:Code}{tm:X U}{V:Sg}{Q:Exit->X U->Sg->Prop}(h:oI V->aG V.nx tm->WPU C n0 c tm V Q):WPU C n0 c tm V Q:=fun hn F x tv m w a b0 hx st hG hd ro eZ=>h (hx ▸ st.h.wf) (hx ▸ st.e.bel) hn F x tv m w a b0 hx st hG hd ro eZ
theorem Gh.first{m st:Nat}{l:X U}(hw:oI V)(hK:V.nx<=K)(hN:K<N)(hg:gt H K=some (.vec l e sz st))(hs:∀k,k<V.nx->gt H k=gt V.h k)(hb:aG V.nx l):Gh V.nx [.vl K st 0 m] ⟨H,N⟩ [.vl V.nx st 0 m] ⟨(V.nx,.vec l e sz st)::V.h,V.nx+1⟩:=fun F x tv hx hr hf he=>by
 have FK:x.V.h=H:=by rw[hx]
 have LU:x.V.nx=N:=by rw[hx]
 let y:Cx:=⟨fun k=>if k=V.nx then x.I K else x.I k,⟨(V.nx,.vec l e sz st)::V.h,V.nx+1⟩,x.s⟩
 have hnone:∀k,V.nx<=k->gt V.h k=none:=fun k hk=>by rcases hq:gt V.h k with _|b;rfl;have:=(hw k b hq).1;omega
 have hM:Mo V.nx x y:=⟨fun k hk jR=>⟨Nat.lt_succ_of_lt hk,fun b' cK=>by
  have h1:gt y.V.h k=gt V.h k:=by show gt ((V.nx,_)::V.h) k=_;rw[aP,if_neg qq0]
  rw[h1,<-hs k hk,<-FK]at cK;exact⟨b',cK,zF _,fun _=>⟨by show(if k=V.nx then _ else _)=_;rw[if_neg qq0],fun l e sz st h=>⟨l,h⟩⟩⟩⟩,fun _ _ _ h=>h⟩
 have Kx:∀k b,gt y.V.h k=some b->(k=V.nx/\b=.vec l e sz st)\/(k<V.nx/\gt V.h k=some b):=fun k b hb=>by have hb:gt ((V.nx,B.vec l e sz st)::V.h) k=some b:=hb;rw[aP]at hb;by_cases e:V.nx=k;rw[if_pos e]at hb;cases hb;exact .inl ⟨e.symm,rfl⟩;rw[if_neg e]at hb;exact .inr ⟨(hw k b hb).1,hb⟩
 have wP:∀k,k<V.nx->y.I k=x.I k:=fun k hk=>by show(if k=V.nx then _ else _)=_;rw[if_neg qq0]
 have Uw:y.I V.nx=x.I K:=by show(if V.nx=V.nx then _ else _)=_;rw[if_pos rfl]
 refine⟨y,fun m w hf=>bT.refl hf,rfl,⟨fun k b hb0=>?_,fun k k' b b' i hb cK h1 h2=>?_,hr.bd⟩,fun i b O=>?_,?_,hM.ke⟩;rcases Kx k b hb0 with⟨rfl,rfl⟩|⟨hk,hb⟩;refine⟨zN _,?_⟩;obtain⟨_,k1,k2,h3⟩:=hr.ok K _ (by rw[FK];exact hg);refine⟨k1,k2,?_⟩;rw[Uw];rcases h3 with h3 |⟨i,l',e1,e2,e3⟩;exact .inl h3;exact .inr ⟨i,l',e1,e2,hM.ke.E hb e3⟩;refine⟨Nat.lt_succ_of_lt hk,?_⟩;have h0:gt x.V.h k=some b:=by rw[FK,hs k hk];exact hb
 have uP:=(hw k b hb).2;obtain⟨_,h3⟩:=hr.ok k b h0;cases b with
 |row q e'=>obtain⟨k1,i,l',e1,e2,e3⟩:=h3;exact⟨k1,i,l',by rw[wP k hk];exact e1,e2,hM.ke.E uP e3⟩
 |vec q e' gM bJ=>obtain⟨k1,k2,h3⟩:=h3;refine⟨k1,k2,?_⟩;rw[wP k hk];rcases h3 with h3 |⟨i,l',e1,e2,e3⟩;exact .inl h3;exact .inr ⟨i,l',e1,e2,hM.ke.E uP e3⟩
 |map es cl=>obtain⟨i,es',e1,e2,e3⟩:=h3;refine⟨i,es',by rw[wP k hk];exact e1,e2,e3.1,fun j e he=>?_⟩;obtain⟨v,q1,q2,q3,q4⟩:=e3.2 j e he;have hb2:=uP e (zX he);exact⟨v,q1,hM.ke _ _ hb2.1 q2,hM.ke _ _ hb2.2 q3,q4⟩
 rcases Kx k b hb with⟨rfl,rfl⟩|⟨hk,hb⟩;rcases Kx k' b' cK with⟨rfl,_⟩|⟨rN,cK⟩;rfl;rw[Uw]at h1;rw[wP k' rN]at h2;have:=hr.inj K k' _ _ i (by rw[FK];exact hg) (by rw[FK,hs k' rN];exact cK) h1 h2;omega;rcases Kx k' b' cK with⟨rfl,rfl⟩|⟨rN,cK⟩;rw[Uw]at h2;rw[wP k hk]at h1;have:=hr.inj k K _ _ i (by rw[FK,hs k hk];exact hb) (by rw[FK];exact hg) h1 h2;omega;rw[wP k hk]at h1;rw[wP k' rN]at h2;exact hr.inj k k' _ _ i (by rw[FK,hs k hk];exact hb) (by rw[FK,hs k' rN];exact cK) h1 h2;obtain⟨h1,h2⟩:=hf i b O;refine⟨h1,fun k c hc=>?_⟩;rcases Kx k c hc with⟨rfl,rfl⟩|⟨hk,hb⟩;rw[Uw];exact h2 K _ (by rw[FK];exact hg);rw[wP k hk];exact h2 k _ (by rw[FK,hs k hk];exact hb);obtain⟨v,vs,rfl,h1,h2⟩:=he.inv;have:=h2.nil_inv;subst this;refine bA.cons ?_ (bA.nil y);simp only[aC]at h1 ⊢;obtain⟨k1,k2,k3⟩:=h1;refine⟨k1,zN _,fun b hb=>?_⟩;rcases Kx _ b hb with⟨_,rfl⟩|⟨hk,_⟩;obtain⟨g1,g2⟩:=k3 _ (by rw[FK];exact hg);refine⟨g1,fun h=>?_⟩;rw[Uw];exact g2 h;omega
theorem fN.op{C:PG}{T:Tb}(hT:j0 C.prog T){V V':Sg}{tm:X U}{o:Oper}{u:U}(h:bI T V tm o.op=some (u,V')):fN C V tm o (fun u' s'=>u'=u/\s'=V'):=fun F x tv m w a next Q fH st hG hn ro eZ=>by
 subst fH;exact wH (RJ h) (st.op hT o h fun y dJ aL w₁ bC e1 bJ aS iG iR m7=>hn u y dJ aL w₁ bC ⟨rfl,e1⟩ bJ aS iG iR m7)
theorem fN.mono{C:PG}{o:Oper}{R R':U->Sg->Prop}(h:fN C V tm o R)(hr:∀u s,R u s->R' u s):fN C V tm o R':=fun F x tv m w a next Q fH st hG hn ro eZ=>h F x tv m w a next Q fH st hG (fun u y dJ aL w₁ bC hR=>hn u y dJ aL w₁ bC (hr _ _ hR)) ro eZ
section
variable{C:PG}{T:Tb}{aA r:X Oper}{o:Oper}{n:Nat}{l:X (Nat×U)}{V:Sg}{K:X U->Sg->Prop}{R:U->Sg->Prop}
theorem D8{d:Tmp}(he:o.dst=some d)(hs:fN C V (fr n l) o R)(hk:∀u V',R u V'->RU C T aA r (fr n ((d,u)::l)) V' K)(hw:c9 aA (fr n l) o=some true:=by exact Go.Vx.wA)(hd:Nat.blt d n=true:=by exact rfl):RU C T aA (o::r) (fr n l) V K :=
 .inr (.inr (.inr (.inr ⟨hw,R,hs,fun u V' h=>by rw[he,sG (d:=some d) u hd];exact hk u V' h⟩)))
theorem RS.stepn(he:o.dst=none)(hs:fN C V (fr n l) o R)(hk:∀u V',R u V'->RU C T aA r (fr n l) V' K)(hw:c9 aA (fr n l) o=some true:=by exact Go.Vx.wA):RU C T aA (o::r) (fr n l) V K :=
 .inr (.inr (.inr (.inr ⟨hw,R,hs,fun u V' h=>by rw[he];exact hk u V' h⟩)))
end
section
variable{T:Tb}{V:Sg}{n:Nat}{l:X (Nat×U)}{v w:U}
theorem Fc(c:v12->X U)(ys:X v12){t xt e2:TypeId}{by_ a st off:Nat}{z:Value}{xs W:X v12}(hd:T.und t=some (.slice e))(dK:T.und xt=some (.slice e2))(hi:T.inf e=some (sz+1,by_,z))(hz:Nat.beq z.cells.toList.length (sz+1)=true)(hc:∀x,(c x).length=sz+1)(hg:gt V.h a=some (.vec (xs.map c).flatten e (sz+1) st))(hx:xs.drop off=W)(ho:off<=xs.length)(h0:off=0\/W≠[])(hy:0<ys.length)(hw:uY V (sz+1) w=some (ys.length,(ys.map c).flatten))(hr:(W.length+ys.length)*by_<=140737488355328/\W.length+ys.length<=140737488355328):C5 T V t xt (.vl a st off W.length) w=some (.vl a (st+1) 0 (W++ys).length,⟨ug V.h a (.vec ((W++ys).map c).flatten e (sz+1) (st+1)),V.nx⟩):=by
 subst hx;have b1:Nat.beq st st=true:=by simp[beq_eq]
 have b2:Nat.beq e e=true:=by simp[beq_eq]
 have b3:Nat.beq (sz+1) (sz+1)=true:=by simp[beq_eq]
 have hl:∀l:X v12,(l.map c).flatten.length=l.length*(sz+1):=fun l=>DQ hc l;have hs:kW (xs.map c).flatten (off*(sz+1)) ((xs.drop off).length*(sz+1))=some ((xs.drop off).map c).flatten:=by
  have e1:(xs.map c).flatten=((xs.take off).map c).flatten++((xs.drop off).map c).flatten:=by rw[<-List.flatten_append,<-List.map_append,List.take_append_drop]
  have e2:((xs.take off).map c).flatten.length=off*(sz+1):=by rw[hl,List.length_take,Nat.min_eq_left ho]
  unfold kW;rw[if_pos (by rw[e1,zU,e2,hl];omega),e1,<-e2,List.drop_left,zW (by rw[hl];exact zF _)]
 have Wx:0<ys.length/\(off=0\/0<(xs.drop off).length)\/off=0/\(xs.drop off).length*(sz+1)=(xs.map c).flatten.length:=by
  refine .inl ⟨hy,?_⟩;rcases h0 with h0 |h0;exact .inl h0;exact .inr (by cases hq:xs.drop off with
   |nil=>exact absurd hq h0|cons=>simp)
 rw[quz,zU];simp only[C5,hd,dK,hi,hz,zC,hw,hg,b1,b2,b3,hs,hr.1,hr.2,true_and,Wx,if_true]
end
theorem sY.bp{P:Zt}{T:Tb}{n:Nat}{l:X (Nat×U)}{t:TypeId}{b:Nat}{z:Value}{zu cs:X U}{x:Ws}{u:U}(hd:T.und t=some (.slice e))(hi:T.inf e=some (sz,b,z))(hx:bM n l x=some u)(h1:Nat.ble (1*sz) 16777216=true)(h3:Nat.beq z.cells.toList.length sz=true)(hz:pN z.cells.toList=some zu)(hf:qY (fun i=>some (i*sz,sz)) (wD zu 1) [(0,u)]=some cs)(hk:okL cs=true)(hl:cs.length=sz)(hc:∀m,aT m u->aG m cs):sY P T (fr n l) (.buildSlice t 1 #[(0,x)]) (.isl false [cs]):=by refine .inr ⟨1,sz,cs,e,fun V=>yK hd hi (show C0 n l [(0,x)]=some [(0,u)] by simp[C0,hx]) h1 rfl h3 hz hf hk,by omega,fun m hm=>hc m (hm x (by simp[Op.operands]) u (dQ hx)),?_⟩;rw[show bN sz 1 cs=[cs] by simp[bN,<-hl]]
theorem kB{k nx:Nat}{b:B}{h:X (Nat×B)}(hk:k<nx):gt ((nx,b)::h) k=gt h k:=by rw[aP,if_neg qq0]
end Go.Vx
namespace Go.Proofs
open Go Go.Rx Go.Vx Tryz
instance:TbP prog tb:=⟨tb_ok⟩
set_option maxRecDepth 20000
set_option maxHeartbeats 4000000
set_option synthInstance.maxSize 4000
set_option synthInstance.maxHeartbeats 200000
instance:uT tb 95 [.nilp,.int .i64 0] [(0,1),(1,1)]:=⟨vW dr.h if95.h rfl qq1⟩
instance:uT tb 97 [.int .i64 0,.int .i64 0] [(0,1),(1,1)]:=⟨vW dq.h if97.h rfl qq1⟩
instance:uT tb 99 [.nils,.int .i64 0] [(0,1),(1,1)]:=⟨vW dp.h if99.h rfl qq1⟩
instance:uT tb 101 [.bool false,.int .i64 0] [(0,1),(1,1)]:=⟨vW Ng.h Ut.h rfl qq1⟩
instance:uT tb 103 [.int .i64 0,.nils,.nilp,.int .i64 0,.int .i64 0,.int .i64 0,.nils,.int .i64 0,.nilp,.int .i64 0,.bool false,.int .i64 0] [(0,1),(1,1),(2,2),(4,2),(6,2),(8,2),(10,2)]:=⟨vW Nf.h mN.h rfl qq1⟩
instance:uT tb 107 [.int .i64 0,.nilp] [(0,1),(1,1)]:=⟨vW Nd.h CE.h rfl qq1⟩
structure eC where
 f:Int
 to:Nat
structure PN where
 kind:Int
 arcs:X eC
 fw:Y Nat
 fwA:Int
 mt:Int
 mtA:Int
 more:X eC
 moA:Int
 cp:Y Nat
 cpA:Int
 ch:DC
 chA:Int
abbrev pt(nm:Nat->Nat)(i:Nat):U:=.ptr (nm i) 0 0
def po(nm:Nat->Nat):Y Nat->U
 |none=>.nilp|some i=>pt nm i
def bX(nm:Nat->Nat)(a:eC):X U:=[.int .i64 a.f,pt nm a.to]
def oG(nm:Nat->Nat)(x:PN):X U:=[.i6 x.kind,.iM (bX nm) x.arcs,po nm x.fw,.i6 x.fwA,.i6 x.mt,.i6 x.mtA,.iM (bX nm) x.more,.i6 x.moA,po nm x.cp,.i6 x.cpA,.bool x.ch,.i6 x.chA]
instance{nm:Nat->Nat}:fX (bX nm) 2:=⟨fun _=>rfl⟩
theorem getP(V:Sg)(nm:Nat->Nat)(o:Y Nat)(a b:Int):aW prog 71 [.agg [po nm o,.i6 a],.i6 b] V (fun u V'=>u=.tup [po nm (cond (a != b) none o),.bool (!(a != b))]/\V'=V):=by
 refine aW.wf fun hw hb=>?_;simp only[aG,aT,and_true,true_and]at hb;obtain⟨h,nx⟩:=V
 haveI:SuC nx (nx+1):=⟨rfl⟩
 rcases o with _ |i
 all_goals
  refine eM 14 xP ?_;refine go ?_;refine eG rfl (fun h1=>?_) (fun h1=>?_);refine go ?_;exact XV hw rfl rfl rfl rfl (fun k hk=>kB hk) (Nat.le_succ _) (by simp[aT,aG]) ⟨by rw[h1];rfl,rfl⟩;refine go ?_;exact XV hw rfl rfl rfl rfl (fun k hk=>kB hk) (Nat.le_succ _) (by simp only[aT,aG,and_true];exact hb) ⟨by rw[h1];rfl,rfl⟩
theorem Xq(V:Sg)(v a b:Int):aW prog 108 [.agg [.i6 v,.i6 a],.i6 b] V (fun u V'=>u=.tup [.i6 (cond (a != b) 0 v),.bool (!(a != b))]/\V'=V):=by
 refine aW.wf fun hw hb=>?_;obtain⟨h,nx⟩:=V
 haveI:SuC nx (nx+1):=⟨rfl⟩
 refine eM 14 J9 ?_;refine go ?_;refine eG rfl (fun h1=>?_) (fun h1=>?_);refine go ?_;exact XV hw rfl rfl rfl rfl (fun k hk=>kB hk) (Nat.le_succ _) (by simp[aT,aG]) ⟨by rw[h1];rfl,rfl⟩;refine go ?_;exact XV hw rfl rfl rfl rfl (fun k hk=>kB hk) (Nat.le_succ _) (by simp[aT,aG]) ⟨by rw[h1];rfl,rfl⟩
theorem Dh(V:Sg)(v:DC)(a b:Int):aW prog 69 [.agg [.bool v,.i6 a],.i6 b] V (fun u V'=>u=.tup [.bool (cond (a != b) false v),.bool (!(a != b))]/\V'=V):=by
 refine aW.wf fun hw hb=>?_;obtain⟨h,nx⟩:=V
 haveI:SuC nx (nx+1):=⟨rfl⟩
 refine eM 14 PU ?_;refine go ?_;refine eG rfl (fun h1=>?_) (fun h1=>?_);refine go ?_;exact XV hw rfl rfl rfl rfl (fun k hk=>kB hk) (Nat.le_succ _) (by simp[aT,aG]) ⟨by rw[h1];rfl,rfl⟩;refine go ?_;exact XV hw rfl rfl rfl rfl (fun k hk=>kB hk) (Nat.le_succ _) (by simp[aT,aG]) ⟨by rw[h1];rfl,rfl⟩
theorem PO(V:Sg)(nm:Nat->Nat)(v:X eC)(a b:Int):aW prog 104 [.agg [.iM (bX nm) v,.i6 a],.i6 b] V (fun u V'=>u=.tup [.iM (bX nm) (cond (a != b) [] v),.bool (!(a != b))]/\V'=V):=by
 refine aW.wf fun hw hb=>?_;simp only[aG,aT,and_true,true_and]at hb;obtain⟨h,nx⟩:=V
 haveI:SuC nx (nx+1):=⟨rfl⟩
 refine eM 14 xT ?_;refine go ?_;refine eG rfl (fun h1=>?_) (fun h1=>?_);refine go ?_;refine⟨.inr rfl,_,dT rfl (dT rfl eD),.tup [.isl false [],.bool false],⟨h,nx⟩,zF _,?_,by rw[h1];rfl,rfl⟩;exact(Gh.wk (.cons (.tup (.cons (.nil false) (.cons (.refl _) .nil))) .nil)).trans (Gh.back hw (fun k hk=>kB hk) (Nat.le_succ _) (by simp[aG,aT,kH]) (zF _));refine go ?_;exact XV hw rfl rfl rfl rfl (fun k hk=>kB hk) (Nat.le_succ _) (by simp only[aT,aG,and_true];exact hb) ⟨by rw[h1];rfl,rfl⟩
variable{nm:Nat->Nat}
theorem XW{o:Y Nat}{a b:Int}{t:DC}{v:U}(ht:(a != b)=t)(hv:po nm (cond t none o)=v)(V:Sg):aW prog 71 [.agg [po nm o,.i6 a],.i6 b] V (fun u V'=>u=.tup [v,.bool (!t)]/\V'=V):=by subst ht;subst hv;exact getP V nm o a b
structure PP where
 H:cZ
 N:X PN
 roots:X Nat
 size:Int
 gen:Int
def dV(nm:Nat->Nat)(i:Nat):X U:=[pt nm i]
instance{nm:Nat->Nat}:fX (dV nm) 1:=⟨fun _=>rfl⟩
def rW(kr st:Nat)(P:PP):X U:=[.iM jV P.H.Types,.iM mM P.H.Feats,.vl kr st 0 P.roots.length,.i6 P.size,.i6 P.gen]
def EM(n:Nat):Y Nat->Prop
 |none=>True|some i=>i<n
structure kE(n:Nat)(x:PN):Prop where
 arcs:∀a∈x.arcs,a.to<n
 fw:EM n x.fw
 more:∀a∈x.more,a.to<n
 cp:EM n x.cp
structure PH(kp kr st:Nat)(nm:Nat->Nat)(P:PP)(h:X (Nat×B)):Prop where
 pool:gt h kp=some (.row (rW kr st P) 83)
 roots:gt h kr=some (.vec (P.roots.map (dV nm)).flatten 92 1 st)
 node:∀i x,P.N[i]? = some x->gt h (nm i)=some (.row (oG nm x) 103)
 inj:∀i j,i<P.N.length->j<P.N.length->nm i=nm j->i=j
 wf:∀x∈P.N,kE P.N.length x
 rt:∀r∈P.roots,r<P.N.length
def sW(N:X PN)(g:Int):Nat->Nat->Y Nat
 |0,_=>none|m+1,p=>a8 N[p]? fun x=>cond (x.fwA != g) (some p) (a8 x.fw fun q=>sW N g m q)
section
variable{kp kr st:Nat}{nm:Nat->Nat}{P:PP}{h:X (Nat×B)}{nx:Nat}
theorem PH.gp(p:PH kp kr st nm P h):eF h kp (.row [.iM jV P.H.Types,.iM mM P.H.Feats,.vl kr st 0 P.roots.length,.i6 P.size,.i6 P.gen] 83):=⟨p.pool⟩
theorem PH.gn(p:PH kp kr st nm P h){i:Nat}{x:PN}(hx:P.N[i]? = some x):eF h (nm i) (.row [.i6 x.kind,.iM (bX nm) x.arcs,po nm x.fw,.i6 x.fwA,.i6 x.mt,.i6 x.mtA,.iM (bX nm) x.more,.i6 x.moA,po nm x.cp,.i6 x.cpA,.bool x.ch,.i6 x.chA] 103):=⟨p.node i x hx⟩
theorem Ox(p:PH kp kr st nm P h)(n:Nat){i r:Nat}(O:sW P.N P.gen n i=some r):aW prog 66 [.ptr kp 0 0,pt nm i] ⟨h,nx⟩ (fun u V'=>u=pt nm r/\V'=⟨h,nx⟩):=by
 haveI:=p.gp
 refine eM 23 xR ?_;refine goN ?_;refine gL (fun m tm V=>∃i,sW P.N P.gen m i=some r/\tm=fr 23 [(0,.ptr kp 0 0),(1,pt nm i)]/\V=⟨h,nx⟩) (fun _ _=>False) n ⟨i,O,rfl,rfl⟩ (fun _ _ h=>h.elim) ?_ (zF _);rintro(_ |m) _ _ ⟨i,O,rfl,rfl⟩;cases O;obtain⟨x,hx,O⟩:=aI O
 haveI:=p.gn hx
 refine goN ?_;apply cE;refine goN ?_;refine dE [] ?_;refine cT ?_;cases hb:x.fwA != P.gen with
 |true=>rw[hb]at O;obtain rfl:=sI O;refine dL rfl (XW hb rfl) xP ?_;refine cT ?_;refine bD ⟨by kernel_rfl,trivial,?_⟩;refine goN ?_;refine eG rfl (fun h1=>?_) (fun h1=>by cases h1);refine goN ?_;exact C2 rfl rfl rfl (zF _) ⟨rfl,rfl⟩
 |false=>rw[hb]at O;obtain⟨q,hq,O⟩:=aI O;refine dL rfl (XW (v:=pt nm q) hb (by rw[hq];rfl)) xP ?_;refine cT ?_;refine bD ⟨by kernel_rfl,trivial,?_⟩;refine goN ?_;refine eG rfl (fun h1=>by cases h1) (fun h1=>?_);refine goN ?_;exact⟨m,_,_,zN _,⟨q,O,rfl,rfl⟩,zF _,Gh.sub (by((repeat refine⟨rfl,?_⟩);exact trivial))⟩
end
theorem Hu{n:Nat}(l:X eC)(hl:∀a∈l,nm a.to<n):kH n (l.map (bX nm)):=by rw[Hv];intro c hc;obtain⟨a,ha,rfl⟩:=List.mem_map.1 hc;simp only[bX,pt,aG,aT,and_true,true_and];exact hl a ha
theorem t_(h:X (Nat×B))(nx:Nat)(nm:Nat->Nat)(l:X eC)(hl:l.length<=1000000):aW prog 105 [.iM (bX nm) l] ⟨h,nx⟩ (fun u V'=>u=.vl nx 0 0 l.length/\V'=⟨(nx,.bv (bX nm) l 107 2 0)::h,nx+1⟩):=by
 refine aW.wf fun hw hb=>?_
 haveI:SuC nx (nx+1):=⟨rfl⟩
 refine lD 8 D0 ?_;refine goN ?_;refine RS.nilq rfl rfl (by exact eE.h) rfl rfl rfl rfl (fun z hz=>?_);refine goN ?_;refine eG rfl (fun h1=>?_) (fun h1=>?_);have:l=[]:=by have:=hz h1;simpa using this
 subst this;refine goN ?_;exact⟨.inr rfl,_,dT rfl eD,.vl nx 0 0 0,⟨(nx,.vec [] 107 2 0)::h,nx+1⟩,Nat.le_succ _,Gh.nilvec (V:=⟨h,nx⟩) (tm:=[.nils]) 0 107 2 qq3 (zF _) rfl,rfl,rfl⟩;refine goN ?_
 haveI:SuC (nx+1) (nx+2):=⟨rfl⟩
 refine c5 ?_;refine goN ?_;refine RS.w rfl (oAe (c:=bX nm) (ys:=l) rfl rfl rfl rfl rfl rfl rfl rfl ⟨by omega,by omega⟩) ?_;refine goN ?_;refine⟨.inr rfl,_,dT rfl eD,.vl nx 0 0 l.length,_,?_,Gh.first (V:=⟨h,nx⟩) (K:=nx+1) (N:=nx+2) hw (Nat.le_succ _) (zN _) (by simp[aP]) (fun k hk=>?_) ?_,rfl,rfl⟩;exact Nat.le_succ _;have hk:k<nx:=hk;rw[aP,if_neg qq0,aP,if_neg qq0];simp only[aG,aT,and_true]at hb;rw[vI];intro u hu;obtain⟨c,hc,hu⟩:=List.mem_flatten.1 hu;exact(vI _ _).1 ((Hv _ _).1 hb c hc) u hu
def gP(g:Int)(x:PN):Int:=cond (x.mtA != g) x.kind x.mt
def gN(g:Int)(x:PN):X eC:=cond (x.moA != g) [] x.more
def bV(g:Int)(x:PN):X eC:=x.arcs++gN g x
section
variable{kp kr st:Nat}{nm:Nat->Nat}{P:PP}{h:X (Nat×B)}{nx:Nat}
variable{i:Nat}
variable{x:PN}
theorem Ow(p:PH kp kr st nm P h)(hx:P.N[i]? = some x):aW prog 70 [.ptr kp 0 0,pt nm i] ⟨h,nx⟩ (fun u V'=>u=.i6 (gP P.gen x)/\V'=⟨h,nx⟩):=by
 haveI:=p.gp
 haveI:=p.gn hx
 refine eM 25 xQ ?_;refine goN ?_;refine dE [] ?_;refine cT ?_;refine dL rfl (fun s=>Xq s x.mt x.mtA P.gen) J9 ?_;refine cT ?_;refine bD ⟨by kernel_rfl,trivial,?_⟩;refine goN ?_;refine eG rfl (fun h1=>?_) (fun h1=>?_);refine goN ?_;have h2:(x.mtA != P.gen)=false:=by simpa using h1
 exact C2 rfl rfl rfl (zF _) ⟨by rw[gP,h2];rfl,rfl⟩;refine goN ?_;have h2:(x.mtA != P.gen)=true:=by simpa using h1
 exact C2 rfl rfl rfl (zF _) ⟨by rw[gP,h2];rfl,rfl⟩
theorem PH.lt(p:PH kp kr st nm P h)(hw:oI ⟨h,nx⟩)(hi:i<P.N.length):nm i<nx:=(hw _ _ (p.node i _ (List.getElem?_eq_getElem hi))).1
theorem PH.arcsLt(p:PH kp kr st nm P h)(hw:oI ⟨h,nx⟩)(hx:P.N[i]? = some x)(g:Int):∀a∈bV g x,nm a.to<nx:=fun a ha=>by
 have OO:=p.wf x (zX hx);rcases yD.1 ha with ha |ha;exact p.lt hw (OO.arcs a ha);unfold gN at ha;rcases hb:x.moA != g with _|_;rw[hb]at ha;exact p.lt hw (OO.more a ha);rw[hb]at ha;cases ha
theorem re(p:PH kp kr st nm P h)(hx:P.N[i]? = some x)(hl:(bV P.gen x).length<=1000000):aW prog 72 [.ptr kp 0 0,pt nm i] ⟨h,nx⟩ (fun u V'=>u=.iM (bX nm) (bV P.gen x)/\V'=⟨h,nx⟩):=by
 refine aW.wf fun hw _=>?_;have A3:=Hu (nm:=nm) (n:=nx) _ (p.arcsLt hw hx P.gen);rw[bV,zU]at hl
 haveI:=p.gp
 haveI:=p.gn hx
 refine eM 26 EH ?_;refine goN ?_;refine dE [] ?_;refine cT ?_;refine dL rfl (fun s=>PO s nm x.more x.moA P.gen) xT ?_;refine cT ?_;refine bD ⟨by kernel_rfl,trivial,?_⟩;refine goN ?_;refine o8 rfl (iL rfl D0 rfl).2 (t_ h nx nm x.arcs qq0) rfl rfl ?_;rintro _ _ ⟨rfl,rfl⟩;refine goN ?_;refine RS.w rfl (oAq (c:=bX nm) (xs:=x.arcs) (ys:=gN P.gen x) rfl rfl rfl rfl rfl rfl rfl rfl ⟨by omega,by omega⟩) ?_;refine goN ?_;refine⟨.inr rfl,_,dT rfl eD,_,⟨h,nx⟩,zF _,qp (c:=bX nm) (xs:=bV P.gen x) (e:=107) (sz:=2) (K:=nx) (st:=1) hw (zF _) (by simp[aP,bV]) (fun k hk=>kB hk) (Nat.le_succ _) (tm':=[.iM (bX nm) (bV P.gen x)]) ?_ (by simp only[aG,aT,and_true];exact A3) (zF _),rfl,rfl⟩;exact congrArg (fun u=>[u]) (GW (c:=bX nm) (sz:=2) (fun _=>rfl) (bV P.gen x) nx 2 107 1)
end
def AC{v12:Type}(q:v12->DC)(l:X v12):Int:=match l.findIdx? q with
 |some i=>(i:Int)|none=>-1
theorem z7o{V:Sg}{l:X eC}{g:FuncId}{fn:Func}{cap:X U}{q:eC->DC}(Cr:tb.fn g=some fn)(hb:fn.body.isSome=true)(hl:l.length<=1000000)(hg:∀a∈l,aW prog g (.agg (bX nm a)::cap) V (fun u V'=>u=.bool (q a)/\V'=V)):
  aW prog 102 [.iM (bX nm) l,.fn (.func g) [] cap] V (fun u V'=>u=.i6 (AC q l)/\V'=V):=by
 refine eM 19 JA ?_;refine goN ?_;refine gL (fun m tm V'=>∃i:Nat,m=l.length-i/\i<=l.length/\(∀(j:Nat)(a:eC),j<i->l[j]? = some a->q a=false)/\tm=fr 19 [(0,.iM (bX nm) l),(1,.fn (.func g) [] cap),(7,.i6 l.length),(8,.i6 i)]/\V'=V) (fun tm V'=>AC q l= -1/\tm=fr 19 []/\V'=V) (l.length-0) ⟨0,rfl,Nat.zero_le _,fun j a hj=>qq0,rfl,rfl⟩ ?_ ?_ (zF _);rintro _ _ ⟨h1,rfl,rfl⟩;refine goN ?_;exact C2 rfl rfl rfl (zF _) ⟨by rw[h1],rfl⟩;rintro m _ _ ⟨i,rfl,hi,eT,rfl,rfl⟩;refine goN ?_;refine eG rfl (fun h1=>?_) (fun h1=>?_)
 ·have mP:i<l.length:=by simpa using h1
  obtain⟨a,ha⟩:∃a,l[i]? = some a:=⟨l[i],List.getElem?_eq_getElem mP⟩;have kP:aB l (i:Int)=some a:=by rw[aB,if_pos ⟨by omega,by omega⟩];simpa using ha
  refine goN ?_;apply cE;refine goN ?_;refine c8 kP ?_;refine goN ?_;refine o8 rfl (yO rfl rfl Cr hb rfl qq4) (hg a (zX ha)) rfl rfl ?_;rintro _ _ ⟨rfl,rfl⟩;refine goN ?_;refine eG rfl (fun h2=>?_) (fun h2=>?_);refine goN ?_;refine C2 rfl rfl rfl (zF _) ⟨?_,rfl⟩;have:l.findIdx? q=some i:=by rw[List.findIdx?_eq_some_iff_getElem];refine⟨mP,?_,fun j hj=>?_⟩;rw[List.getElem?_eq_getElem mP]at ha;cases ha;exact h2;have:=eT j _ hj (List.getElem?_eq_getElem qq0);simp[this]
  rw[AC,this]
  ·refine goN ?_;have lQ:IntKind.i64.wrap ((i:Int)+1)=((i+1:Nat):Int):=by rw[p9 qq0 qq0];rfl
   refine⟨l.length-(i+1),_,_,by omega,⟨i+1,rfl,mP,fun j b hj hb=>?_,rfl,rfl⟩,zF _,Gh.sub ?_⟩;rcases Nat.lt_succ_iff_lt_or_eq.1 hj with hj |rfl;exact eT j b hj hb;rw[ha]at hb;cases hb;exact h2
   ·rw[<-lQ];(repeat refine⟨rfl,?_⟩);exact trivial
 refine goN ?_;refine⟨_,_,⟨?_,rfl,rfl⟩,zF _,Gh.sub trivial⟩;have mP:i=l.length:=by have:¬ (i:Int)<l.length:=(by simpa using h1);omega
 have:l.findIdx? q=none:=by rw[List.findIdx?_eq_none_iff];intro a ha;obtain⟨j,hj⟩:=List.getElem?_of_mem ha;exact eT j a (by rw[mP];exact(zG.1 hj).1) hj
 rw[AC,this]
theorem zaf{h:X (Nat×B)}{nx K:Nat}{y:eC}(hg:gt h K=some (.row (bX nm y) 107))(a:eC):aW prog 103 (.agg (bX nm a)::[.ptr K 0 0]) ⟨h,nx⟩ (fun u V'=>u=.bool (a.f==y.f)/\V'=⟨h,nx⟩):=by
 refine aW.wf fun hw _=>?_;have hK:K<nx:=(hw _ _ hg).1
 haveI:SuC nx (nx+1):=⟨rfl⟩
 haveI:eF ((nx,.row (bX nm a) 107)::h) K (.row [.i6 y.f,pt nm y.to] 107):=⟨by rw[kB hK];exact hg⟩
 refine eM 9 VE ?_;refine goN ?_;exact th hw rfl rfl rfl (fun k hk=>kB hk) (Nat.le_succ _) (by simp[aT]) ⟨rfl,rfl⟩
end Go.Proofs
namespace Go.Proofs
open Go Go.Rx Go.Vx Tryz
set_option maxRecDepth 20000
set_option maxHeartbeats 4000000
set_option synthInstance.maxSize 4000
set_option synthInstance.maxHeartbeats 200000
def Sc(p1:X Int)(z5:Int):Y ((X Int)):=
 a8 (w8 p1 0 z5) fun l6=>some l6
def ZD(p1:X Int):Nat->Int->Y ((X Int))
 |0,_=>none|m1+1,z4=>a8 (cond (decide (z4>0)) (a8 (aB p1 (IntKind.i64.wrap (z4-1))) fun mT=>some (mT==0)) (some false)) fun b13=>cond b13 ((ZD p1 m1) (IntKind.i64.wrap (z4-1))) (Sc p1 z4)
def vr(n:Nat)(p1:X Int):Y ((X Int)):=
 ZD p1 n (p1.length:Int)
theorem qny(n:Nat)(p1:X Int)(r:(X Int))(O:vr n p1=some r):cY prog 111 [.isl false (p1.map (cI .u64))] (.isl false (r.map (cI .u64))):=by unfold vr at O;refine lD 21 VA ?_;refine go ?_;refine oH (ZD p1) (fun z4=>[(0,.iM (cI .u64) p1),(3,.i6 z4)]) (fun _=>⟨[],0⟩) (pW (Sc p1) (fun z5=>[(0,.iM (cI .u64) p1),(3,.i6 z5)]) (fun _=>⟨[],0⟩)) O (tW ?_) ?_;intro z5 O;unfold Sc at O;obtain⟨l6,h7,O⟩:=aI O;obtain⟨h8,h9⟩:=xd (cI .u64) .i64 h7;refine go ?_;refine aY (u:=.iM (cI .u64) l6) rfl (L2 rfl MG (MF rfl) (Oc (cI .u64) fU.h (bB lP.h) (mB .u64) h8 h9)) ?_;exact gx O;intro m1 z4 O;unfold ZD at O;obtain⟨b13,i5,O⟩:=aI O;refine gn ?_;refine nE [(0,.iM (cI .u64) p1),(3,.i6 z4),(15,.bool b13)] ⟨[],0⟩ ?_ ?_;refine gF O ?_ ?_<;>intro lU O;refine go ?_;apply cE;refine go ?_;exact cn O;refine go ?_;exact cm O;refine go ?_;rcases gB i5 with⟨gD,i5⟩|⟨gD,i5⟩;obtain⟨mT,gC,i5⟩:=aI i5;obtain rfl:=sI i5;refine go ?_;refine c8 gC ?_;refine go ?_;exact mS;exact gy i5
def Qu(p1:X Int)(p2:X Int)(n:Nat)(dB:X Int):Y ((X Int)):=
 aF ((if(p2.length:Int)<(p1.length:Int)then(p2.length:Int)else(p1.length:Int)).toNat=dB.length) (
 a8 (vr n dB) fun mI=>some mI)
def vt(p1:X Int)(p2:X Int)(n:Nat):Nat->Int->(X Int)->Y ((X Int))
 |0,_,_=>none|m1+1,z9,l10=>
  cond (decide (z9<(((if(p2.length:Int)<(p1.length:Int)then(p2.length:Int)else(p1.length:Int)).toNat:Nat):Int))) (a8 (aB p1 z9) fun lV=>
   a8 (aB p2 z9) fun KD=>
   a8 (i8 l10 0 ((if(p2.length:Int)<(p1.length:Int)then(p2.length:Int)else(p1.length:Int)).toNat) z9) fun D9=>(vt p1 p2 n m1) (IntKind.i64.wrap (z9+1)) (l10.set z9.toNat (K4 .u64 lV KD))) (Qu p1 p2 n l10)
def Pm(n:Nat)(p1:X Int)(p2:X Int):Y ((X Int)):=
 aF (0<=(if(p2.length:Int)<(p1.length:Int)then(p2.length:Int)else(p1.length:Int))/\8*(if(p2.length:Int)<(p1.length:Int)then(p2.length:Int)else(p1.length:Int)).toNat<=281474976710656/\(if(p2.length:Int)<(p1.length:Int)then(p2.length:Int)else(p1.length:Int))<=281474976710656) (
 vt p1 p2 n n 0 (List.replicate (if(p2.length:Int)<(p1.length:Int)then(p2.length:Int)else(p1.length:Int)).toNat 0))
theorem qx3(n:Nat)(p1:X Int)(p2:X Int)(r:(X Int))(O:Pm n p1 p2=some r):cY prog 78 [.isl false (p1.map (cI .u64)),.isl false (p2.map (cI .u64))] (.isl false (r.map (cI .u64))):=by unfold Pm at O;refine eM 33 Yf ?_;obtain⟨h3,O⟩:=c6 O;refine go ?_;refine aY (u:=.i6 (if(p2.length:Int)<(p1.length:Int)then(p2.length:Int)else(p1.length:Int))) rfl (Y' rfl rfl rfl rfl rfl rfl rfl) (aY (u:=.sl 0 0 ((if(p2.length:Int)<(p1.length:Int)then(p2.length:Int)else(p1.length:Int)).toNat) ((if(p2.length:Int)<(p1.length:Int)then(p2.length:Int)else(p1.length:Int)).toNat)) (V':=⟨[(0,.row (List.map (cI .u64) (List.replicate (if(p2.length:Int)<(p1.length:Int)then(p2.length:Int)else(p1.length:Int)).toNat 0)).flatten 213)],1⟩) rfl (Oe (cI .u64) 0 rfl rfl fU.h lP.h rfl rfl rfl rfl h3) ?_);refine go ?_;refine aY rfl (H4 rfl rfl rfl (z7s fU.h rfl)) ?_;refine go ?_;refine D3 (vt p1 p2 n) (fun z9 _=>[(0,.iM (cI .u64) p1),(1,.iM (cI .u64) p2),(5,.sl 0 0 ((if(p2.length:Int)<(p1.length:Int)then(p2.length:Int)else(p1.length:Int)).toNat) ((if(p2.length:Int)<(p1.length:Int)then(p2.length:Int)else(p1.length:Int)).toNat)),(14,.i6 (((if(p2.length:Int)<(p1.length:Int)then(p2.length:Int)else(p1.length:Int)).toNat:Nat):Int)),(15,.i6 z9)]) (fun _ l10=>⟨[(0,.row (l10.map (cI .u64)).flatten 213)],1⟩) (pW (Qu p1 p2 n) (fun _=>[(5,.sl 0 0 ((if(p2.length:Int)<(p1.length:Int)then(p2.length:Int)else(p1.length:Int)).toNat) ((if(p2.length:Int)<(p1.length:Int)then(p2.length:Int)else(p1.length:Int)).toNat))]) (fun dB=>⟨[(0,.row (dB.map (cI .u64)).flatten 213)],1⟩)) O (tW ?_) ?_;intro dB O;unfold Qu at O;obtain⟨gC,O⟩:=c6 O;refine gn ?_;refine dF (tm':=fr 33 [(5,.iM (cI .u64) dB)]) (V':=⟨[],1⟩) (Gh.trans (Gh.sub (l':=[(5,.sl 0 0 ((if(p2.length:Int)<(p1.length:Int)then(p2.length:Int)else(p1.length:Int)).toNat) ((if(p2.length:Int)<(p1.length:Int)then(p2.length:Int)else(p1.length:Int)).toNat))]) ⟨rfl,trivial⟩) (Gh.fzS (l':=[(5,.iM (cI .u64) dB)]) (h':=[]) 0 (.row (dB.map (cI .u64)).flatten 213) 1 rfl qq4 (by simp only[fzS,lZ,vG,tA,DL,KZ,RN,NE,Y9,YA,YB,RX,H5,Y6,NA,RM,RB,GV,Gi (mB .u64) gC]) (by simp only[fzH,fzB,ug,Nat.beq,zC,zD,lZ,vG,tA,DL,KZ,RN,NE,Y9,YA,YB,RX,H5,Y6,NA,RM,RB,GV,Gi (mB .u64) gC]))) NZ ?_;obtain⟨mI,i5,O⟩:=aI O;refine go ?_;refine aK rfl (pC (qny n dB mI i5) _) VA ?_;exact gx O;intro m1 z9 l10 O;unfold vt at O;refine gF O ?_ ?_<;>intro lU O;refine go ?_;apply cE;obtain⟨lV,jI,KD,kD,D9,tT,O⟩:=oO O;refine go ?_;refine dE [] ?_;refine gd ?_;refine dX jI ?_;refine gd ?_;refine dX kD ?_;refine gd ?_;refine aV rfl (yJ rfl rfl (ak _ _ _) rfl) (aV rfl (dZ rfl rfl (sX fU.h (bB lP.h) rfl tT)) (Fk (u:=.junk) (V':=⟨[(0,.row (List.map (cI .u64) (l10.set z9.toNat (K4 .u64 lV KD))).flatten 213)],1⟩) rfl (XT (cI .u64) (bB lP.h) (mB .u64) rfl rfl rfl rfl rfl rfl tT rfl) rfl ?_));refine bD ⟨by kernel_rfl,trivial,?_⟩;refine go ?_;exact Wn2 O;refine go ?_;exact cm O
def I?: Y (Int):=
 some (-1)
def Ju(p1:X oQ)(c2:X Int)(f1:oQ->(X Int)->Y (DC)):Nat->Int->Y (Int)
 |0,_=>none|m1+1,z6=>cond (decide (z6<(p1.length:Int))) (a8 (aB p1 z6) fun x8=>a8 (f1 x8 c2) fun nP=>cond nP (some z6) ((Ju p1 c2 f1 m1) (IntKind.i64.wrap (z6+1)))) (I?)
def pb(f1:oQ->(X Int)->Y (DC))(n:Nat)(p1:X oQ)(c2:X Int):Y (Int):=
 Ju p1 c2 f1 n 0
theorem qah(f1:oQ->(X Int)->Y (DC))(hf1:∀(a0:oQ)(a1:X Int)(r:DC),f1 a0 a1=some r->aW prog 80 [.agg (jV a0),.iptr [.isl false (a1.map (cI .u64))]] ⟨[],0⟩ (fun u _=>u=.bool r/\aT 0 u))(n:Nat)(p1:X oQ)(c2:X Int)(r:Int)(O:pb f1 n p1 c2=some r):cY prog 79 [.isl false (p1.map jV),.fn (.func 80) [] [.iptr [.isl false (c2.map (cI .u64))]]] (.int .i64 r):=by unfold pb at O;have hf1S:∀(a0:oQ)(a1:X Int)(r:DC),f1 a0 a1=some r->∀V,aW prog 80 [.agg (jV a0),.iptr [.iM (cI .u64) a1]] V (fun u V'=>u=.bool r/\V'=V):=fun a0 a1 r h V=>aW.pure1C (hf1 a0 a1 r h) V;refine eM 19 Ye ?_;refine go ?_;refine oH (Ju p1 c2 f1) (fun z6=>[(0,.iM jV p1),(1,.fn (.func 80) [] [.iptr [.iM (cI .u64) c2]]),(7,.i6 (p1.length:Int)),(8,.i6 z6)]) (fun _=>⟨[],0⟩) (pL I? [] ⟨[],0⟩) O (rY ?_) ?_;intro O;unfold I? at O;exact gx O;intro m1 z6 O;unfold Ju at O;refine gF O ?_ ?_<;>intro h7 O;refine go ?_;apply cE;obtain⟨x8,h9,nP,jS,O⟩:=bO O;refine go ?_;refine c8 h9 ?_;refine go ?_;refine RS.call (u:=.bool nP) (args:=[.agg (jV x8),.iptr [.iM (cI .u64) c2]]) rfl (yO rfl rfl Yd rfl rfl (rfl)) (hf1S x8 c2 nP jS _) rfl rfl ?_;refine gF O ?_ ?_<;>intro gC O;exact gx O;refine go ?_;exact cn O;refine go ?_;exact Wx0 O
def X_(n:Nat)(p1:X Int)(p2:Int):Y (Int):=
 cond (decide (p2<(p1.length:Int))) (a8 (aB p1 p2) fun x4=>some x4) (some 0)
theorem qsk(n:Nat)(p1:X Int)(p2:Int)(r:Int)(O:X_ n p1 p2=some r):cY prog 153 [.isl false (p1.map (cI .u64)),.int .i64 p2] (.int .u64 r):=by unfold X_ at O;refine eM 13 UP ?_;refine gF O ?_ ?_<;>intro h3 O;obtain⟨x4,h5,O⟩:=aI O;refine go ?_;refine c8 h5 ?_;exact gx O;exact gx O
def G?: Y (DC):=
 some true
def ul(p1:X Int)(p2:X Int)(n:Nat):Nat->Int->Y (DC)
 |0,_=>none|m1+1,z7=>cond (decide (z7<(p1.length:Int))) (a8 (aB p1 z7) fun x9=>a8 (X_ n p2 z7) fun qB=>cond ((YF .u64 x9 qB) != 0) (some false) ((ul p1 p2 n m1) (IntKind.i64.wrap (z7+1)))) (G?)
def Im(n:Nat)(p1:X Int)(p2:X Int):Y (DC):=
 ul p1 p2 n n 0
theorem qhe(n:Nat)(p1:X Int)(p2:X Int)(r:DC)(O:Im n p1 p2=some r):cY prog 112 [.isl false (p1.map (cI .u64)),.isl false (p2.map (cI .u64))] (.bool r):=by unfold Im at O;refine eM 21 J8 ?_;refine go ?_;refine oH (ul p1 p2 n) (fun z7=>[(1,.iM (cI .u64) p2),(7,.iM (cI .u64) p1),(8,.i6 (p1.length:Int)),(9,.i6 z7)]) (fun _=>⟨[],0⟩) (pL G? [] ⟨[],0⟩) O (rY ?_) ?_;intro O;unfold G? at O;exact gx O;intro m1 z7 O;unfold ul at O;refine gF O ?_ ?_<;>intro h8 O;refine go ?_;apply cE;obtain⟨x9,gD,O⟩:=aI O;refine go ?_;refine c8 gD ?_;obtain⟨qB,gC,O⟩:=aI O;refine go ?_;refine aK rfl (pC (qsk n p2 z7 qB gC) _) UP (aY rfl (yJ rfl rfl (qr0 _ _ _) rfl) ?_);refine gF O ?_ ?_<;>intro eB O;exact gx O;refine go ?_;exact cn O;refine go ?_;exact Wx0 O
def Qf(n:Nat)(p1:X Int)(p2:X Int):Y (DC):=
 a8 (a8 (Im n p1 p2) fun r3=>cond r3 (a8 (Im n p2 p1) fun r6=>some r6) (some false)) fun b8=>some b8
theorem qq8(n:Nat)(p1:X Int)(p2:X Int)(r:DC)(O:Qf n p1 p2=some r):cY prog 81 [.isl false (p1.map (cI .u64)),.isl false (p2.map (cI .u64))] (.bool r):=by unfold Qf at O;refine eM 13 Yc ?_;obtain⟨b8,h9,O⟩:=aI O;refine gr ?_;refine nE [(4,.bool b8)] ⟨[],0⟩ ?_ ?_;exact gx O;obtain⟨r3,h4,h9⟩:=aI h9;refine go ?_;refine aK rfl (pC (qhe n p1 p2 r3 h4) _) J8 ?_;refine go ?_;rcases gB h9 with⟨h5,h9⟩|⟨h5,h9⟩;obtain⟨r6,h7,h9⟩:=aI h9;obtain rfl:=sI h9;refine go ?_;refine aK rfl (pC (qhe n p2 p1 r6 h7) _) J8 ?_;refine go ?_;exact mS;exact gy h9
def Il(n:Nat)(p1:oQ)(c2:X Int):Y (DC):=
 a8 (Qf n p1.Code c2) fun r3=>some r3
theorem qod(n:Nat)(p1:oQ)(c2:X Int)(r:DC)(O:Il n p1 c2=some r):cY prog 80 [.agg (jV p1),.iptr [.isl false (c2.map (cI .u64))]] (.bool r):=by unfold Il at O;refine eM 8 Yd ?_;obtain⟨r3,h4,O⟩:=aI O;refine go ?_;refine aK rfl (pC (qq8 n p1.Code c2 r3 h4) _) Yc ?_;exact gx O
def L5(n:Nat)(p1:cZ)(p2:Int)(p3:Int):Y (Int×DC):=
 a8 (aB p1.Types p2) fun x4=>
 a8 (aB p1.Types p3) fun x6=>
 a8 (Pm n x4.Code x6.Code) fun r8=>cond ((r8.length:Int)==0) (some (0,false)) (a8 (pb (Il n) n p1.Types r8) fun qB=>cond (decide (qB<0)) (some (0,false)) (some (qB,true)))
theorem qsy(n:Nat)(p1:cZ)(p2:Int)(p3:Int)(r:Int×DC)(O:L5 n p1 p2 p3=some r):cY prog 53 [.agg (g8 p1),.int .i64 p2,.int .i64 p3] (.tup [.int .i64 r.1,.bool r.2]):=by unfold L5 at O;refine xU 33 Yo ?_;obtain⟨x4,h5,x6,h7,r8,h9,O⟩:=oO O;refine go ?_;refine dE [(0,13),(1,13),(2,13),(3,13),(4,13),(5,13),(6,13),(7,13),(8,13),(9,13),(10,13),(11,13)] ?_;refine gd ?_;refine dX h5 ?_;refine gd ?_;refine dX h7 ?_;refine gd ?_;refine dL rfl (pC (qx3 n x4.Code x6.Code r8 h9)) Yf ?_;refine eN ?_;refine qM ?_;refine bD ⟨by kernel_rfl,⟨pP sV.h rfl (bB Az.h) rfl rfl rfl,⟨yM GD.h rfl rfl rfl rfl,⟨oD rfl,⟨dZ rfl rfl (Gr jV GD.h (bB I0.h) d? h5 rfl),⟨ti GG.h rfl (bB pD.h) rfl rfl,⟨Of fU.h rfl rfl rfl,⟨pP sV.h rfl (bB Az.h) rfl rfl rfl,⟨yM GD.h rfl rfl rfl rfl,⟨oD rfl,⟨dZ rfl rfl (Gr jV GD.h (bB I0.h) d? h7 rfl),⟨ti GG.h rfl (bB pD.h) rfl rfl,⟨Of fU.h rfl rfl rfl,trivial⟩⟩⟩⟩⟩⟩⟩⟩⟩⟩⟩⟩,?_⟩;refine gF O ?_ ?_<;>intro gD O;refine go ?_;obtain rfl:=sI O;exact y5 rfl rfl rfl rfl rfl;obtain⟨qB,gC,O⟩:=aI O;refine go ?_;refine aY rfl (we rfl rfl) (aK rfl (vw (qah (Il n) (qod n) n p1.Types r8 qB gC) (sC 1 1)) Ye ?_);refine gF O ?_ ?_<;>intro eB O;refine go ?_;obtain rfl:=sI O;exact y5 rfl rfl rfl rfl rfl;refine go ?_;obtain rfl:=sI O;exact y5 rfl rfl rfl rfl rfl
def cW(nm:Nat->Nat)(w:Nat×Nat):X U:=[pt nm w.1,pt nm w.2]
inductive WK(nm:Nat->Nat)(nx:Nat)(W:List (Nat×Nat))(u:U)(H:List (Nat×B)):Prop
 |vl (K st off:Nat) (xs:List (Nat×Nat)) (hu:u=.vl K st off W.length) (hg:gt H K=some (.bv (cW nm) xs 200 2 st)) (hx:xs.drop off=W) (ho:off<=xs.length) (hz:off=0\/W≠[]) (hK:nx<=K)
 |em (hu:u=.isl true []) (hW:W=[])
variable{nm:Nat->Nat}
variable{nx:Nat}
variable{W:X (Nat×Nat)}
variable{u:U}
variable{H:X (Nat×B)}
theorem WK.len{N:Nat}(w:WK nm nx W u H):w7 tb ⟨H,N⟩ 201 u=some (.int .i64 W.length):=by cases w with|vl K st off xs hu hg hx ho hz hK=>subst hu;exact Ac lI.h hg|em hu hW=>subst hu;subst hW;exact oj (cW nm) lI.h (xs:=[])
theorem z8w{m:Nat}(h:1<=m):mV m m (some (.int .i64 1)) none=some (1,m,m):=by have h1:sL 1 (m+1)=true:=KS ⟨by omega,by omega⟩;simp[mV,wE,h1]
variable{n:Nat}
theorem WK.cut{C:PG}(hT:j0 C.prog tb){w:Nat×Nat}{N:Nat}{l:X (Nat×U)}{o:Oper}{xo:Ws}(wk:WK nm nx (w::W) u H)(ho:o.op=.slice 201 xo (some (.const (.int .i64 1))) none none)(hx:bM n l xo=some u):
  fN C ⟨H,N⟩ (fr n l) o (fun u' V'=>∃H' K,V'=⟨H',N⟩/\WK nm nx W u' H'/\nx<=K/\(∃q s,gt H K=some (.vec q 200 2 s))/\∀k,k≠K->gt H' k=gt H k):=by
 cases wk with|em hu hW=>cases hW|vl K st off xs hu hg hxs ho' hz hK=>
 subst hu;have aQ:xs.length=off+(W.length+1):=by have:=congrArg List.length hxs;rw[List.length_drop]at this;simp at this;omega
 have zP:(xs.map (cW nm)).flatten.length=xs.length*2:=DQ (c:=cW nm) (fun _=>rfl) xs;have CU:xs.drop (off+1)=W:=by have:=congrArg List.tail hxs;simpa[List.tail_drop]using this
 cases W with
 |nil=>refine(fN.cut0 hT ho lI.h (bB rF.h) (dQ hx) rfl hg (by rw[zP];simp at aQ;omega)).mono ?_;rintro u' s (⟨rfl,rfl⟩|⟨rfl,rfl⟩);exact⟨_,K,rfl,.vl K (st+1) 0 [] rfl (by rw[bS,if_pos rfl,hg];rfl) rfl (zF _) (.inl rfl) hK,hK,⟨_,_,hg⟩,fun k hk=>by rw[bS,if_neg (Ne.symm hk)]⟩;exact⟨_,K,rfl,.em rfl rfl,hK,⟨_,_,hg⟩,fun k hk=>rfl⟩
 |cons w2 W=>
  have sM:bI tb ⟨H,N⟩ (fr n l) o.op=some (.vl K st (off+1) (w2::W).length,⟨H,N⟩):=by rw[ho];refine L2 hx rfl rfl ?_;have:=Ln (V:=⟨H,N⟩) (cW nm) lI.h (bB rF.h) (fun _=>rfl) (K:=K) (st:=st) (off:=off) (m:=(w::w2::W).length) (xs:=xs) (e':=200) (by simp[oA,hg,B.bv]) (by simp at aQ ⊢;omega) (z8w qq4);rw[this];simp
  refine(fN.op hT sM).mono ?_;rintro u' s ⟨rfl,rfl⟩;exact⟨H,K,rfl,.vl K st (off+1) xs rfl hg CU (by simp at aQ;omega) (.inr qq4) hK,hK,⟨_,_,hg⟩,fun k hk=>rfl⟩
def OJ(g:Int)(p:Nat)(mine:X eC):X eC->X (Nat×Nat)->X PN->Y (X (Nat×Nat)×X PN)
 |[],W,N=>some (W,N)|y::ys,W,N=>cond (decide (AC (fun z=>z.f==y.f) mine>=0)) (a8 (aB mine (AC (fun z=>z.f==y.f) mine)) fun z=>aF (W.length<=1000000) (OJ g p mine ys (W++[(z.to,y.to)]) N)) (a8 N[p]? fun x=>aF ((gN g x).length<=1000000) (OJ g p mine ys W (N.set p { x with more:=gN g x++[y],moA:=g })))
def JW(H:cZ)(g:Int)(n:Nat):Nat->X (Nat×Nat)->X PN->Y (DC×X PN)
 |0,_,_=>none|_+1,[],N=>some (true,N)
 |m+1,w::W,N=>
  a8 (sW N g n w.1) fun p=>
  a8 (sW N g n w.2) fun q=>cond (Nat.beq p q) (JW H g n m W N) (a8 N[p]? fun x=>
   a8 N[q]? fun y=>
   a8 (L5 n H (gP g x) (gP g y)) fun r=>cond (!r.2) (some (false,N)) (aF ((bV g x).length<=1000000/\(bV g y).length<=1000000) (a8 (OJ g p (bV g x) (bV g y) W N) fun s=>
    a8 s.2[p]? fun x1=>
    a8 (s.2.set p { x1 with mt:=r.1,mtA:=g })[q]? fun y1=>
    JW H g n m s.1 ((s.2.set p { x1 with mt:=r.1,mtA:=g }).set q { y1 with fw:=some p,fwA:=g }))))
section
variable{kp kr st:Nat}{nm:Nat->Nat}{P:PP}{h:X (Nat×B)}{nx:Nat}
variable{i:Nat}
variable{x:PN}
theorem PH.upd(p:PH kp kr st nm P h){y:PN}(hx:P.N[i]? = some x)(hy:kE P.N.length y)(h1:gt H (nm i)=some (.row (oG nm y) 103))(h2:∀k b,gt h k=some b->k≠nm i->gt H k=some b):PH kp kr st nm { P with N:=P.N.set i y } H:=by
 have hi:i<P.N.length:=(zG.1 hx).1;have hn:=p.node i x hx;refine⟨h2 _ _ p.pool fun e=>?_,h2 _ _ p.roots fun e=>?_,fun j z hz=>?_,fun a b ha hb=>p.inj a b (by simpa using ha) (by simpa using hb),fun z hz=>?_,fun r hr=>by simpa using p.rt r hr⟩;have:=p.pool;rw[e,hn]at this;simp at this;have:=p.roots;rw[e,hn]at this;cases this;rw[List.getElem?_set]at hz;by_cases e:i=j;subst e;rw[if_pos rfl,if_pos hi]at hz;cases hz;exact h1;rw[if_neg e]at hz;have hj:j<P.N.length:=(zG.1 hz).1;exact h2 _ _ (p.node j z hz) fun e2=>e (p.inj i j hi hj e2.symm);have aQ:(P.N.set i y).length=P.N.length:=by simp
 show kE (P.N.set i y).length z;rw[aQ];rcases List.mem_or_eq_of_mem_set hz with hz |rfl;exact p.wf z hz;exact hy
theorem PH.keep(p:PH kp kr st nm P h){K:Nat}{q:X U}{s:Nat}(hK:gt h K=some (.vec q 200 2 s))(h2:∀k b,gt h k=some b->k≠K->gt H k=some b):PH kp kr st nm P H:=by
 have cP:∀k b,gt h k=some b->(∀q s,b≠.vec q 200 2 s)->gt H k=some b:=fun k b hb hn=>h2 k b hb fun e=>by rw[e,hK]at hb;cases hb;exact hn _ _ rfl
 exact⟨cP _ _ p.pool qq4,cP _ _ p.roots (by simp[dV]),fun i x hx=>cP _ _ (p.node i x hx) qq4,p.inj,p.wf,p.rt⟩
theorem PH.put(p:PH kp kr st nm P h)(y:PN)(hx:P.N[i]? = some x)(hy:kE P.N.length y):PH kp kr st nm { P with N:=P.N.set i y } (ug h (nm i) (.row (oG nm y) 103)):=
 p.upd hx hy (by rw[bS,if_pos rfl,p.node i x hx];rfl) fun k b hb hk=>by rw[bS,if_neg (Ne.symm hk)];exact hb
theorem WK.keep{nx:Nat}(w:WK nm nx W u h)(h2:∀k q s,gt h k=some (.vec q 200 2 s)->gt H k=some (.vec q 200 2 s)):WK nm nx W u H:=by cases w with|vl K st off xs hu hg hx ho hz hK=>exact .vl K st off xs hu (h2 _ _ _ hg) hx ho hz hK|em hu hW=>exact .em hu hW
theorem WK.put(p:PH kp kr st nm P h){HH:Nat}(w:WK nm HH W u h)(hx:P.N[i]? = some x)(b:B):WK nm HH W u (ug h (nm i) b):=
 w.keep fun k q s hk=>by rw[bS,if_neg fun e=>?_];exact hk;rw[<-e,p.node i x hx]at hk;cases hk
theorem PH.more(p:PH kp kr st nm P h)(h2:∀k b,gt h k=some b->gt H k=some b):PH kp kr st nm P H :=
 ⟨h2 _ _ p.pool,h2 _ _ p.roots,fun i x hx=>h2 _ _ (p.node i x hx),p.inj,p.wf,p.rt⟩
theorem NC{g:Int}(w:kE n x):∀a∈bV g x,a.to<n:=fun a ha=>by
 rcases yD.1 ha with ha |ha;exact w.arcs a ha;unfold gN at ha;rcases hb:x.moA != g with _|_;rw[hb]at ha;exact w.more a ha;rw[hb]at ha;cases ha
theorem io{g:Int}(w:kE n x):∀a∈gN g x,a.to<n:=fun a ha=>NC (g:=g) w a (yD.2 (.inr ha))
theorem Gv{nm:Nat->Nat}{M:Nat}(hn:∀k,k<n->nm k<M):∀{o:Y Nat},EM n o->aT M (po nm o)
 |none,_=>trivial|some i,h=>hn i h
theorem WK.bel{nx:Nat}{M:Nat}(w:WK nm nx W u h)(hw:oI ⟨h,M⟩):aT M u:=by cases w with|vl K st off xs hu hg hx ho hz hK=>subst hu;exact(hw K _ hg).1|em hu hW=>subst hu;simp[aT,kH]
theorem ju{N:X PN}{g:Int}:∀{n i r:Nat},sW N g n i=some r->∃x,N[r]? = some x
 |0,_,_,h=>by cases h
 |n+1,i,r,h=>by
  obtain⟨x,hx,h⟩:=aI h;cases hb:x.fwA != g with
  |true=>rw[hb]at h;obtain rfl:=sI h;exact⟨x,hx⟩
  |false=>rw[hb]at h;obtain⟨q,_,h⟩:=aI h;exact ju h
theorem WB(p:PH kp kr st nm P h)(n:Nat){a b:Nat}{r:DC×X PN}(O:JW P.H P.gen n n [(a,b)] P.N=some r):
  aW prog 65 [.ptr kp 0 0,pt nm a,pt nm b] ⟨h,nx⟩ (fun u V'=>∃H N,u=.bool r.1/\V'=⟨H,N⟩/\PH kp kr st nm { P with N:=r.2 } H/\r.2.length=P.N.length/\nx<=N/\∀k,k<nx->(∀i,i<P.N.length->nm i≠k)->gt H k=gt h k):=by
 refine aW.wf fun uF _=>?_;refine xU 129 Yj ?_;refine goN ?_;refine RS.w (u:=.agg [pt nm a,pt nm b]) rfl (YG (qs:=[(0,pt nm a),(1,pt nm b)]) rfl qq1) ?_;refine goN ?_;refine RS.step (u:=.vl nx 0 0 1) (V':=⟨(nx,.bv (cW nm) [(a,b)] 200 2 0)::h,nx+1⟩) rfl ?_ rfl rfl ?_;exact fN.bslv (k:=1) (cs:=(List.map (cW nm) [(a,b)]).flatten) tb_ok rfl lI.h rF.h rfl rfl rfl rfl rfl rfl rfl rfl;refine goN ?_;have p0:PH kp kr st nm P ((nx,.bv (cW nm) [(a,b)] 200 2 0)::h):=p.more fun k b hb=>by rw[kB (uF k b hb).1];exact hb
 refine gL (fun m tm V=>∃W N uw H N1,JW P.H P.gen n m W N=some r/\tm=fr 129 [(0,.ptr kp 0 0),(7,uw)]/\V=⟨H,N1⟩/\PH kp kr st nm { P with N:=N } H/\WK nm nx W uw H/\N.length=P.N.length/\nx<=N1/\∀k,k<nx->(∀i,i<P.N.length->nm i≠k)->gt H k=gt h k)
  (fun tm V=>tm=fr 129 []/\r.1=true/\∃H N1,V=⟨H,N1⟩/\PH kp kr st nm { P with N:=r.2 } H/\r.2.length=P.N.length/\nx<=N1/\∀k,k<nx->(∀i,i<P.N.length->nm i≠k)->gt H k=gt h k) n
  ⟨[(a,b)],P.N,.vl nx 0 0 1,_,_,O,rfl,rfl,p0,.vl nx 0 0 [(a,b)] rfl (by simp[aP]) rfl (Nat.zero_le _) (.inl rfl) (zF _),rfl,Nat.le_succ _,fun k hk _=>kB hk⟩ ?_ ?_ (Nat.le_succ _)
 rintro _ _ ⟨rfl,h1,H,N1,rfl,h2,h3,h4,h5⟩;refine goN ?_;exact C2 rfl rfl rfl h4 ⟨H,N1,by rw[h1],rfl,h2,h3,h4,h5⟩;rintro(_ |m) _ _ ⟨W,N,uw,H,N1,O,rfl,rfl,hp,Bf,aQ,iR,fF⟩;cases O;refine goN ?_;refine RS.w rfl (H4 rfl rfl rfl Bf.len) ?_;refine goN ?_;cases W with
 |nil=>obtain rfl:=sI O;refine eG rfl (fun h1=>by cases h1) (fun h1=>?_);refine goN ?_;exact⟨_,_,⟨rfl,rfl,H,N1,rfl,hp,aQ,iR,fF⟩,iR,Gh.sub trivial⟩
 |cons w W=>
 cases Bf with|em hu hW=>cases hW|vl K bJ off xs hu hg hx ho hz hK=>
 subst hu;have qK:i8 xs off (w::W).length 0=some w:=by rw[i8,if_pos ⟨by omega,by simp⟩];have:=congrArg (fun l=>l[0]?) hx;simpa using this
 have hv:oA ⟨H,N1⟩ K bJ=some ((xs.map (cW nm)).flatten,200,2):=by simp[oA,hg,B.bv]
 have Cc:live ⟨H,N1⟩ K bJ=true:=by simp[live,hg,B.bv,B.st]
 refine eG rfl (fun h1=>?_) (fun h1=>by simp at h1);obtain⟨i,hi,j,hj,O⟩:=bO O;refine goN ?_;apply cE;refine goN ?_;refine dE [] ?_;refine cT ?_;refine aV rfl (dZ rfl rfl (TK (cW nm) lI.h (bB rF.h) qq3 (fun _=>rfl) hv qK)) ?_;refine aV (u:=.ptr K bJ (off*2+(0:Int).toNat*2+0)) rfl (dZ rfl rfl (Gf QS.h (bB iO.h) Cc ⟨by decide,by decide⟩ rfl)) ?_;refine aV (u:=pt nm w.1) rfl (F6 (cW nm) gW.h rfl (fun _=>rfl) rfl hg qK rfl) (RD.call rfl (iL rfl xR rfl).2 (Ox hp n hi) rfl rfl ?_);refine cT ?_;refine aV rfl (dZ rfl rfl (TK (cW nm) lI.h (bB rF.h) qq3 (fun _=>rfl) hv qK)) ?_;refine aV (u:=.ptr K bJ (off*2+(0:Int).toNat*2+1)) rfl (dZ rfl rfl (Gf QS.h (bB iO.h) Cc ⟨by decide,by decide⟩ rfl)) ?_;refine aV (u:=pt nm w.2) rfl (F6 (cW nm) gW.h rfl (fun _=>rfl) rfl hg qK rfl) (RD.call rfl (iL rfl xR rfl).2 (Ox hp n hj) rfl rfl ?_);refine cT ?_;refine bD ⟨by kernel_rfl,trivial,?_⟩;refine goN ?_;refine D8 rfl (WK.cut tb_ok (.vl K bJ off xs rfl hg hx ho hz hK) rfl rfl) ?_;rintro uw _ ⟨H',K',rfl,Bf,hK',⟨q',s',gi⟩,nV⟩;have uG:=hp.keep gi (fun k b hb hk=>by rw[nV k hk];exact hb);have Cq:∀k,k<nx->(∀i,i<P.N.length->nm i≠k)->gt H' k=gt h k:=fun k hk hn=>by rw[nV k qq0,fF k hk hn]
 clear fF nV gi hg hx ho hz qK hv Cc hp;obtain⟨x,hx⟩:=ju hi;obtain⟨y,hy⟩:=ju hj;have mP:i<N.length:=(zG.1 hx).1;have iB:j<N.length:=(zG.1 hy).1;have xK:Nat.beq (nm i) (nm j)=Nat.beq i j:=by rw[beq_eq,beq_eq];by_cases e:i=j;simp[e];have:nm i≠nm j:=fun h=>e (uG.inj i j mP iB h);simp[e,this]
 refine goN ?_;refine D8 rfl (fN.peq tb_ok rfl (.inl rfl) gW.h (bB mN.h) (dQ rfl) (dQ rfl) (uG.node i x hx) (uG.node j y hy)) ?_;rintro _ _ ⟨rfl,rfl⟩;refine goN ?_;refine eG rfl (fun h2=>?_) (fun h2=>?_)
 ·rw[if_pos rfl,xK]at h2;rw[h2]at O;refine goN ?_;exact⟨m,_,_,zN _,⟨W,N,uw,H',N1,O,rfl,rfl,uG,Bf,aQ,iR,Cq⟩,iR,Gh.sub (by((repeat refine⟨rfl,?_⟩);exact trivial))⟩
 rw[if_pos rfl,xK]at h2;rw[h2]at O;obtain⟨x',vM,O⟩:=aI O;rw[hx]at vM;cases vM;obtain⟨y',qJ,O⟩:=aI O;rw[hy]at qJ;cases qJ;obtain⟨r1,hr1,O⟩:=aI O
 haveI:=uG.gp
 refine goN ?_;refine dE [] ?_;refine cT ?_;refine RD.call rfl (iL rfl xQ rfl).2 (Ow uG hx) rfl rfl ?_;refine cT ?_;refine RD.call rfl (iL rfl xQ rfl).2 (Ow uG hy) rfl rfl ?_;refine cT ?_;refine dL rfl (pC (qsy n P.H _ _ r1 hr1)) Yo ?_;refine cT ?_;refine bD ⟨by kernel_rfl,trivial,?_⟩;refine goN ?_;refine eG rfl (fun h3=>?_) (fun h3=>?_);rw[h3]at O;obtain rfl:=sI O;refine goN ?_;exact C2 rfl rfl rfl iR ⟨H',N1,rfl,rfl,uG,aQ,iR,Cq⟩;rw[h3]at O;obtain⟨⟨FQ,OT⟩,O⟩:=c6 O;obtain⟨s,hs,O⟩:=aI O;have px:∀a∈bV P.gen y,a.to<P.N.length:=by rw[<-aQ];exact NC (uG.wf y (zX hy))
 refine goN ?_;refine aK rfl (re uG hx FQ) EH ?_;refine goN ?_;refine aK rfl (re uG hy OT) EH ?_;refine goN ?_;refine gL (fun m tm V=>∃(t:Nat)(W1:X (Nat×Nat))(N2:X PN)(GA:U)(H1:X (Nat×B))(M1:Nat),m=(bV P.gen y).length-t/\t<=(bV P.gen y).length/\OJ P.gen i (bV P.gen x) ((bV P.gen y).drop t) W1 N2=some s/\tm=fr 129 [(0,.ptr kp 0 0),(7,GA),(8,pt nm i),(9,pt nm j),(10,.i6 r1.1),(12,.iM (bX nm) (bV P.gen x)),(63,.iM (bX nm) (bV P.gen y)),(64,.i6 (bV P.gen y).length),(65,.i6 t)]/\V=⟨H1,M1⟩/\PH kp kr st nm { P with N:=N2 } H1/\WK nm nx W1 GA H1/\N2.length=P.N.length/\nx<=M1/\∀k,k<nx->(∀i,i<P.N.length->nm i≠k)->gt H1 k=gt h k)
  (fun tm V=>∃(GA:U)(H1:X (Nat×B))(M1:Nat),tm=fr 129 [(0,.ptr kp 0 0),(7,GA),(8,pt nm i),(9,pt nm j),(10,.i6 r1.1)]/\V=⟨H1,M1⟩/\PH kp kr st nm { P with N:=s.2 } H1/\WK nm nx s.1 GA H1/\s.2.length=P.N.length/\nx<=M1/\∀k,k<nx->(∀i,i<P.N.length->nm i≠k)->gt H1 k=gt h k) (bV P.gen y).length
  ⟨0,W,N,uw,H',N1,rfl,Nat.zero_le _,hs,rfl,rfl,uG,Bf,aQ,iR,Cq⟩ ?_ ?_ iR
 ·rintro _ _ ⟨GA,H1,M1,rfl,rfl,nA,B6,mO,wY,xG⟩;obtain⟨x1,Bd,y1,Bc,O⟩:=bO O
  haveI:=nA.gp
  haveI:=nA.gn Bd
  refine goN ?_;have fM:=nA.wf x1 (zX Bd);have nK:=nA.put { x1 with mt:=r1.1,mtA:=P.gen } Bd ⟨fM.arcs,fM.fw,fM.more,fM.cp⟩;have Ux:=WK.put nA B6 Bd (.row (oG nm { x1 with mt:=r1.1,mtA:=P.gen }) 103);change RU _ _ _ _ _ (Sg.mk (ug H1 (nm i) (.row (oG nm { x1 with mt:=r1.1,mtA:=P.gen }) 103)) M1) _
  haveI:=nK.gp
  haveI:=nK.gn Bc
  refine goN ?_;have mD:=nK.wf y1 (zX Bc);have Bv:=nK.put { y1 with fw:=some i,fwA:=P.gen } Bc ⟨mD.arcs,by show i<_;simp;rw[mO,<-aQ];exact mP,mD.more,mD.cp⟩;have hwk3:=WK.put nK Ux Bc (.row (oG nm { y1 with fw:=some i,fwA:=P.gen }) 103);refine⟨m,_,_,zN _,⟨s.1,_,GA,_,M1,O,rfl,rfl,Bv,hwk3,by simp[mO],wY,fun k hk hn=>?_⟩,wY,Gh.sub (by((repeat refine⟨rfl,?_⟩);exact trivial))⟩;rw[bS,if_neg (hn j (by rw[<-aQ];exact iB)),bS,if_neg (hn i (by rw[<-aQ];exact mP))];exact xG k hk hn
 rintro _ _ _ ⟨t,W1,N2,GA,H1,M1,rfl,ht,cJ,rfl,rfl,nA,B6,mO,wY,xG⟩;refine goN ?_;refine eG rfl (fun h4=>?_) (fun h4=>?_)
 ·have eW:t<(bV P.gen y).length:=by simpa using h4
  obtain⟨ya,Bb⟩:∃a,(bV P.gen y)[t]? = some a:=⟨_,List.getElem?_eq_getElem eW⟩;have kP:aB (bV P.gen y) (t:Int)=some ya:=by rw[aB,if_pos ⟨by omega,by omega⟩];simpa using Bb
  have vQ:(bV P.gen y).drop t=ya::(bV P.gen y).drop (t+1):=by rw[List.drop_eq_getElem_cons eW];rw[List.getElem?_eq_getElem eW]at Bb;cases Bb;rfl
  rw[vQ]at cJ;refine WPU.wf fun fM bh=>?_
  haveI:SuC M1 (M1+1):=⟨rfl⟩
  haveI:SuC (M1+1) (M1+2):=⟨rfl⟩
  refine goN ?_;apply cE;refine goN ?_;refine c8 kP ?_;refine goN ?_;refine RS.w rfl (we rfl rfl) ?_;refine aK rfl (z7o VE rfl FQ (fun a _=>zaf (y:=ya) (by simp[aP]) a)) JA ?_;refine goN ?_;have hH:∀k b,gt H1 k=some b->gt ((M1,.row (bX nm ya) 107)::H1) k=some b:=fun k b hb=>by rw[kB (fM k b hb).1];exact hb
  have nK:=nA.more hH;have Ux:=B6.keep fun k q s hk=>hH k _ hk;change cond (decide (AC (fun z=>z.f==ya.f) (bV P.gen x)>=0)) _ _=some s at cJ;refine eG rfl (fun h5=>?_) (fun h5=>?_)
  ·rw[h5]at cJ;obtain⟨z,hz,cJ⟩:=aI cJ;obtain⟨hWl,cJ⟩:=c6 cJ;refine goN ?_;cases B6 with
   |vl K bJ off xs hu hg hx ho hz0 hK=>
    subst hu;have hKM:K<M1:=(fM K _ hg).1;have uM:gt ((M1+1,.row [pt nm z.to,pt nm ya.to] 200)::(M1,.row (bX nm ya) 107)::H1) K=some (.vec (xs.map (cW nm)).flatten 200 2 bJ):=by rw[aP,if_neg qq0,aP,if_neg qq0];exact hg
    refine dE [(0,9)] ?_;refine cT ?_;refine dX hz ?_;refine cT ?_;refine aV (u:=.agg [pt nm z.to,pt nm ya.to]) rfl (YG (qs:=[(0,pt nm z.to),(1,pt nm ya.to)]) rfl qq1) ?_;refine eN ?_;refine RD.act rfl (pR rfl rfl rfl rfl (Fc (cW nm) [(z.to,ya.to)] lI.h lI.h rF.h rfl (fun _=>rfl) uM hx ho hz0 qq4 (FD (cW nm) [(z.to,ya.to)] (q:=[pt nm z.to,pt nm ya.to]) (by simp[rowOf,aP]) rfl rfl rfl) ⟨by simp;omega,by simp;omega⟩)) rfl rfl ?_;refine cT ?_;refine bD ⟨by kernel_rfl,⟨oD rfl,trivial⟩,?_⟩;refine goN ?_;refine⟨(bV P.gen y).length-(t+1),_,_,by omega,⟨t+1,W1++[(z.to,ya.to)],N2,.vl K (bJ+1) 0 (W1++[(z.to,ya.to)]).length,_,M1+2,rfl,eW,cJ,rfl,rfl,?_,?_,mO,by omega,?_⟩,by show nx<=M1+2;omega,Gh.sub ?_⟩;refine nA.keep hg fun k b hb hk=>?_;have:k<M1:=(fM k b hb).1;rw[bS,if_neg (Ne.symm hk),aP,if_neg qq0,aP,if_neg qq0];exact hb;exact .vl K (bJ+1) 0 (W1++[(z.to,ya.to)]) rfl (by rw[bS,if_pos rfl,uM];rfl) rfl (Nat.zero_le _) (.inl rfl) hK;intro k hk hn;rw[bS,if_neg qq0,aP,if_neg qq0,aP,if_neg qq0];exact xG k hk hn
    ·have lQ:IntKind.i64.wrap ((t:Int)+1)=((t+1:Nat):Int):=by rw[p9 qq0 qq0];rfl
     rw[<-lQ];(repeat refine⟨rfl,?_⟩);exact trivial
   |em hu hW=>
    subst hu;subst hW
    haveI:SuC (M1+2) (M1+3):=⟨rfl⟩
    refine dE [(0,9)] ?_;refine cT ?_;refine dX hz ?_;refine cT ?_;refine aV (u:=.agg [pt nm z.to,pt nm ya.to]) rfl (YG (qs:=[(0,pt nm z.to),(1,pt nm ya.to)]) rfl qq1) ?_;refine eN ?_;refine RD.act rfl (pR rfl rfl rfl rfl (z3x (cW nm) [(z.to,ya.to)] lI.h lI.h rF.h rfl (FD (cW nm) [(z.to,ya.to)] (q:=[pt nm z.to,pt nm ya.to]) (by simp[rowOf,aP]) rfl rfl rfl) qq4 ⟨by simp,by simp⟩)) rfl rfl ?_;refine cT ?_;refine bD ⟨by kernel_rfl,⟨oD rfl,trivial⟩,?_⟩;refine goN ?_;refine⟨(bV P.gen y).length-(t+1),_,_,by omega,⟨t+1,[]++[(z.to,ya.to)],N2,.vl (M1+2) 0 0 ([]++[(z.to,ya.to)]).length,_,M1+3,rfl,eW,cJ,rfl,rfl,?_,?_,mO,by omega,?_⟩,by show nx<=M1+3;omega,Gh.sub ?_⟩;refine nA.more fun k b hb=>?_;have:k<M1:=(fM k b hb).1;show gt ((M1+2,_)::(M1+1,_)::(M1,_)::H1) k=some b;rw[aP,if_neg qq0,aP,if_neg qq0,aP,if_neg qq0];exact hb;exact .vl (M1+2) 0 0 [(z.to,ya.to)] rfl (by simp[newU,aP]) rfl (Nat.zero_le _) (.inl rfl) qq0;intro k hk hn;show gt ((M1+2,_)::(M1+1,_)::(M1,_)::H1) k=_;rw[aP,if_neg qq0,aP,if_neg qq0,aP,if_neg qq0];exact xG k hk hn
    ·have lQ:IntKind.i64.wrap ((t:Int)+1)=((t+1:Nat):Int):=by rw[p9 qq0 qq0];rfl
     rw[<-lQ];(repeat refine⟨rfl,?_⟩);exact trivial
  ·rw[h5]at cJ;obtain⟨x2,wQ,cJ⟩:=aI cJ;obtain⟨uJ,cJ⟩:=c6 cJ
   haveI:=nK.gp
   haveI:=nK.gn wQ
   refine goN ?_;refine dE [] ?_;refine cT ?_;refine dL rfl (fun s=>PO s nm x2.more x2.moA P.gen) xT ?_;refine cT ?_;refine bD ⟨by kernel_rfl,trivial,?_⟩;refine goN ?_;have hN:∀k,k<P.N.length->nm k<M1:=fun k hk=>(fM _ _ (nA.node k _ (List.getElem?_eq_getElem (by show k<N2.length;omega)))).1;have tC:kp<M1:=(fM _ _ nA.pool).1;have CN:=hN i qq0;have nq:∀{a b:Nat},b<a->Nq a b:=fun h=>⟨by rw[beq_eq];simp;omega⟩
   haveI:Nq M1 kp:=nq tC
   haveI:Nq (M1+1) kp:=nq qq0
   haveI:Nq M1 (nm i):=nq CN
   haveI:Nq (M1+1) (nm i):=nq qq0
   haveI:Nq (M1+1) M1:=nq qq0
   haveI:=nA.gp
   haveI:=nA.gn wQ
   refine dE [(0,2),(0,5),(3,2),(6,2),(6,5),(7,2),(7,5),(8,2),(8,5),(9,2),(9,5)] ?_;refine cT ?_;refine JV rfl (iL rfl D0 rfl).2 (t_ _ _ nm (gN P.gen x2) uJ) rfl rfl ?_;refine cT ?_;refine qo rfl (sY.bp (cs:=bX nm ya) DA.h CE.h rfl rfl rfl rfl rfl rfl rfl (fun m h=>by simpa only[aT]using h)) rfl rfl ?_;refine RD.act rfl (oAq (c:=bX nm) (xs:=gN P.gen x2) (ys:=[ya]) rfl rfl rfl rfl rfl rfl rfl rfl ⟨by simp;omega,by simp;omega⟩) rfl rfl ?_;refine cT ?_;refine qM ?_;refine bD ⟨by kernel_rfl,⟨opm,opm,opm,opm,opm,opm,opm,opm,opm,opm,opm,trivial⟩,?_⟩;refine goN ?_;have CW:∀k,k<P.N.length->nm k<M1+1:=fun k hk=>Nat.lt_succ_of_lt (hN k hk);have fO:=nA.wf x2 (zX wQ);have pG:(show PP from{ P with N:=N2 }).N.length=P.N.length:=mO;rw[pG]at fO;have hgK:∀(b:B)(H:X (Nat×B)),gt ((M1+1,b)::H) (M1+1)=some b:=fun b H=>by simp[aP]
   have gtfz:∀(b c d:B)(k:Nat),k<M1->k≠nm i->gt (fzH (M1+1) b 2 ((M1+1,b)::(M1,c)::ug H1 (nm i) d)) k=gt H1 k:=fun b c d k hk jR=>by rw[AP,if_neg qq0,aP,if_neg qq0,aP,if_neg qq0,bS,if_neg (Ne.symm jR)];rcases hq:gt H1 k with _|b';rfl;simp only[zM];rw[Hc _ _ (Hh (Nat.le_succ M1) (fM k b' hq).2)]
   have gtni:∀(b c:B)(R:X U),gt (fzH (M1+1) b 2 ((M1+1,b)::(M1,c)::ug H1 (nm i) (.row R 103))) (nm i)=some (.row (gU (M1+1) b 2 R) 103):=fun b c R=>by rw[AP,if_neg qq0,aP,if_neg qq0,aP,if_neg qq0,bS,if_pos rfl,nA.node i x2 wQ];rfl
   refine⟨(bV P.gen y).length-(t+1),fr 129 [(0,.ptr kp 0 0),(7,GA),(8,pt nm i),(9,pt nm j),(10,.i6 r1.1),(12,.iM (bX nm) (bV P.gen x)),(63,.iM (bX nm) (bV P.gen y)),(64,.i6 (bV P.gen y).length),(65,.i6 ((t+1:Nat):Int))],⟨fzH (M1+1) (.bv (bX nm) (gN P.gen x2++[ya]) 107 2 1) 2 _,M1+1+1⟩,by omega,⟨t+1,W1,N2.set i { x2 with more:=gN P.gen x2++[ya],moA:=P.gen },GA,_,M1+1+1,rfl,eW,cJ,rfl,rfl,?_,?_,by simp[mO],by omega,?_⟩,by show nx<=M1+1+1;omega,Gh.trans (Gh.sub ?_) (Gh.fz (M1+1) (.bv (bX nm) (gN P.gen x2++[ya]) 107 2 1) 2 (hgK _ _) nofun (tO _ _ _ (YD ?_)) rfl)⟩;refine nA.upd wQ ⟨?_,?_,?_,?_⟩ ((gtni _ _ _).trans ?_) fun k b hb hk=>(gtfz _ _ _ k (fM k b hb).1 hk).trans hb;rw[pG];exact fO.arcs;rw[pG];exact fO.fw;rw[pG];intro a ha;rcases yD.1 ha with ha |ha
   exact io fO a ha;simp at ha;subst ha;exact px a (zX Bb);rw[pG];exact fO.cp;have e1:=GW (c:=bX nm) (sz:=2) (fun _=>rfl) (gN P.gen x2++[ya]) (M1+1) 2 107 1;simp only[tA,vG,DL,H5,KZ,N9 _ _ _ (Gv CW fO.fw),N9 _ _ _ (Gv CW fO.cp)];rw[e1];rfl;refine B6.keep fun k q s hk=>(gtfz _ _ _ k (fM k _ hk).1 fun e=>?_).trans hk;rw[e,nA.node i x2 wQ]at hk;cases hk;intro k hk hn;exact(gtfz _ _ _ k qq0 (Ne.symm (hn i qq0))).trans (xG k hk hn)
   ·have lQ:IntKind.i64.wrap ((t:Int)+1)=((t+1:Nat):Int):=by rw[p9 qq0 qq0];rfl
    rw[<-lQ];(repeat refine⟨rfl,?_⟩);exact trivial
   simp only[BelS,aT,and_true,true_and];exact⟨by omega,aT.le (Nat.le_succ M1) _ (B6.bel fM),by omega,CW j qq0,Hu _ fun a ha=>CW _ (by rw[<-aQ];exact NC (uG.wf x (zX hx)) a ha),Hu _ fun a ha=>CW _ (px a ha)⟩
 ·refine goN ?_;have eW:t=(bV P.gen y).length:=by
   have:¬ (t:Int)<(bV P.gen y).length:=by simpa using h4
   omega
  subst eW;rw[List.drop_length]at cJ;obtain rfl:=sI cJ;exact⟨_,_,⟨GA,H1,M1,rfl,rfl,nA,B6,mO,wY,xG⟩,wY,Gh.sub (by((repeat refine⟨rfl,?_⟩);exact trivial))⟩
end
def RG(N:X PN)(g:Int)(n:Nat):X eC->X Nat->Y (X Nat)
 |[],out=>some out|a::l,out=>a8 (sW N g n a.to) fun q=>cond (out.contains q) (RG N g n l out) (aF (out.length<=1000000) (RG N g n l (out++[q])))
def VY(N:X PN)(g:Int)(n:Nat):Nat->Nat->X Nat->Y (X Nat)
 |0,_,_=>none|m+1,i,out=>cond (decide (i<out.length)) (a8 out[i]? fun p=>a8 N[p]? fun x=>aF ((bV g x).length<=1000000/\out.length<=1000000) (a8 (RG N g n (bV g x) out) fun o=>VY N g n m (i+1) o)) (some out)
def FZ(nm:Nat->Nat)(s:Nat)(out:X Nat):X (Nat×U×Nat):=(out.zipIdx s).map fun p=>(nm p.1,.bool true,p.2)
theorem z99(nm:Nat->Nat)(s:Nat)(out:X Nat)(q:Nat):FZ nm s (out++[q])=FZ nm s out++[(nm q,.bool true,s+out.length)]:=by simp[FZ,List.zipIdx_append]
theorem ob{nm:Nat->Nat}{n:Nat}(hi:∀i j,i<n->j<n->nm i=nm j->i=j){q:Nat}(hq:q<n):∀(out:X Nat)(s:Nat),(∀k∈out,k<n)->vL (nm q) (FZ nm s out)=cond (out.contains q) (some (.bool true)) none
 |[],s,_=>rfl|k::out,s,h=>by
  have ih:=ob hi hq out (s+1) fun k hk=>h k (by simp[hk]);simp only[FZ,List.zipIdx_cons,zQ,vL]at ih ⊢;rw[ih,List.contains_cons];by_cases e:q=k;subst e;simp[beq_eq];have:nm k≠nm q:=fun h2=>e (hi q k hq (h k qq4) h2.symm);have e2:(q==k)=false:=by simpa using e
  simp[beq_eq,this,e2]
theorem ot{nm:Nat->Nat}{h:X (Nat×B)}{n:Nat}(hr:∀i,i<n->isRow h (nm i)):∀(out:X Nat)(s:Nat),(∀k∈out,k<n)->∀e∈FZ nm s out,isRow h e.1:=fun out s ho e he=>by
 simp only[FZ,List.mem_map]at he;obtain⟨p,hp,rfl⟩:=he;exact hr _ (ho _ (List.fst_mem_of_mem_zipIdx hp))
section
variable{kp kr st:Nat}{nm:Nat->Nat}{P:PP}{h:X (Nat×B)}{nx:Nat}
theorem PH.row(p:PH kp kr st nm P h):∀i,i<P.N.length->isRow h (nm i):=fun i hi=>⟨_,_,p.node i _ (List.getElem?_eq_getElem hi)⟩
theorem ji{N:X PN}{g:Int}{n i r:Nat}(h:sW N g n i=some r):r<N.length:=by obtain⟨x,hx⟩:=ju h;exact(zG.1 hx).1
structure Ff(kp kr st:Nat)(nm:Nat->Nat)(P:PP)(h:X (Nat×B))(nx:Nat)(out:X Nat)(Ks Ko so:Nat)(H:X (Nat×B))(M:Nat):Prop where
 mp:gt H Ks=some (.map ((FZ nm 0 out).map pE) out.length)
 vc:gt H Ko=some (.bv (dV nm) out 92 1 so)
 ks:nx<=Ks
 ko:nx<=Ko
 old:∀k,k<nx->gt H k=gt h k
 le:nx<=M
 lt:∀k∈out,k<P.N.length
theorem Ff.ph{out:X Nat}{Ks Ko so M:Nat}{H:X (Nat×B)}(r:Ff kp kr st nm P h nx out Ks Ko so H M)(p:PH kp kr st nm P h)(hw:oI ⟨h,nx⟩):PH kp kr st nm P H:=p.more fun k b hb=>by rw[r.old k (hw k b hb).1];exact hb
theorem z62(p:PH kp kr st nm P h)(n:Nat){i:Nat}(hi:i<P.N.length){out:X Nat}(O:VY P.N P.gen n n 0 [i]=some out):
  aW prog 67 [.ptr kp 0 0,pt nm i] ⟨h,nx⟩ (fun u V'=>u=.iM (dV nm) out/\V'=⟨h,nx⟩):=by
 refine aW.wf fun uF _=>?_
 haveI:SuC nx (nx+1):=⟨rfl⟩
 haveI:SuC (nx+1) (nx+2):=⟨rfl⟩
 refine eM 49 Yi ?_;refine goN ?_;refine RS.w rfl z0s ?_;refine goN ?_;have h1:∀(b:B),∀k c,gt h k=some c->gt ((nx,b)::h) k=some c:=fun b k c hc=>by rw[kB (uF k c hc).1];exact hc
 refine RS.stepn rfl (fN.pins tb_ok (es:=[]) (cl:=0) (v:=.bool true) (.inr rfl) GE.h gW.h (bB mN.h) (dQ rfl) (dQ rfl) (dQ rfl) (by simp[newU,aP]) (ot (p.more (h1 _)).row [i] 0 (by simpa using hi) (nm i,.bool true,0) (by simp[FZ])) qq4 rfl) ?_;rintro _ _ ⟨rfl,rfl⟩;refine goN ?_;refine D8 rfl (fN.bslv (k:=1) (cs:=(List.map (dV nm) [i]).flatten) (qs:=[(0,pt nm i)]) tb_ok rfl gX.h iO.h (wv rfl) rfl rfl rfl rfl rfl rfl rfl) ?_;rintro _ _ ⟨rfl,rfl⟩;refine goN ?_;have Cr:∀(b c d:B)(k:Nat),k<nx->gt ((nx+1,b)::ug ((nx,c)::h) nx d) k=gt h k:=fun b c d k hk=>by rw[aP,if_neg qq0,bS,if_neg qq0,aP,if_neg qq0]
 refine gL (fun m tm V=>∃(t:Nat)(o:X Nat)(so:Nat)(H:X (Nat×B))(M:Nat),VY P.N P.gen n m t o=some out/\tm=fr 49 [(0,.ptr kp 0 0),(5,.map nx),(6,.vl (nx+1) so 0 o.length),(7,.i6 t)]/\t<=o.length/\V=⟨H,M⟩/\Ff kp kr st nm P h nx o nx (nx+1) so H M)
  (fun tm V=>∃(so:Nat)(H:X (Nat×B))(M:Nat),tm=fr 49 [(6,.vl (nx+1) so 0 out.length)]/\V=⟨H,M⟩/\Ff kp kr st nm P h nx out nx (nx+1) so H M) n
  ⟨0,[i],0,_,nx+2,O,rfl,Nat.zero_le _,rfl,⟨by show gt ((nx+1,_)::ug ((nx,_)::h) nx _) nx=_;rw[aP,if_neg qq0,bS,if_pos rfl];simp[aP,FZ],by simp[newU,aP,B.bv],zF _,Nat.le_succ _,fun k hk=>Cr _ _ _ k hk,by omega,by simpa using hi⟩⟩ ?_ ?_ (by show nx<=nx+2;omega)
 rintro _ _ ⟨so,H,M,rfl,rfl,hr⟩;refine goN ?_;refine⟨.inr rfl,_,dT rfl eD,.iM (dV nm) out,⟨h,nx⟩,zF _,qp (c:=dV nm) (xs:=out) (e:=92) (sz:=1) (K:=nx+1) (st:=so) uF (Nat.le_succ _) hr.vc hr.old hr.le (tm':=[.iM (dV nm) out]) ?_ ?_ (zF _),rfl,rfl⟩;exact congrArg (fun u=>[u]) (GW (c:=dV nm) (sz:=1) (fun _=>rfl) out (nx+1) 1 92 so);simp only[aG,aT,and_true];rw[Hv];intro c hc;obtain⟨a,ha,rfl⟩:=List.mem_map.1 hc;simp only[dV,pt,aG,aT,and_true];exact p.lt uF (hr.lt a ha);rintro(_ |m) _ _ ⟨t,o,so,H,M,O,rfl,ht,rfl,hr⟩;cases O;have hp:=hr.ph p uF;refine goN ?_;refine RS.w rfl (H4 rfl rfl rfl (aj gX.h hr.vc)) ?_;refine goN ?_;refine eG rfl (fun h2=>?_) (fun h2=>?_)
 ·have pT:t<o.length:=by simpa using h2
  change cond (decide (t<o.length)) _ _=some out at O;rw[decide_eq_true pT]at O;obtain⟨q,hq,x,hx,O⟩:=bO O;obtain⟨⟨hl,BD⟩,O⟩:=c6 O;obtain⟨o2,Vs,O⟩:=aI O;have kP:aB o (t:Int)=some q:=by rw[aB,if_pos ⟨by omega,by omega⟩];simpa using hq
  have hv:oA ⟨H,M⟩ (nx+1) so=some ((o.map (dV nm)).flatten,92,1):=by simp[oA,hr.vc,B.bv]
  refine goN ?_;apply cE;refine goN ?_;refine RS.w rfl (dZ rfl rfl (kA (dV nm) gX.h (bB iO.h) qq3 (fun _=>rfl) hv kP)) ?_;refine RS.w rfl (sZ (dV nm) (pt nm) gW.h rfl (fun _=>rfl) rfl hr.vc kP) (aK rfl (re hp hx hl) EH ?_);refine goN ?_;refine gL (fun m tm V=>∃(j:Nat)(o1:X Nat)(so:Nat)(H:X (Nat×B))(M:Nat),m=(bV P.gen x).length-j/\j<=(bV P.gen x).length/\RG P.N P.gen n ((bV P.gen x).drop j) o1=some o2/\t<o1.length/\tm=fr 49 [(0,.ptr kp 0 0),(5,.map nx),(6,.vl (nx+1) so 0 o1.length),(7,.i6 t),(27,.iM (bX nm) (bV P.gen x)),(28,.i6 (bV P.gen x).length),(29,.i6 j)]/\V=⟨H,M⟩/\Ff kp kr st nm P h nx o1 nx (nx+1) so H M)
   (fun tm V=>∃(so:Nat)(H:X (Nat×B))(M:Nat),tm=fr 49 [(0,.ptr kp 0 0),(5,.map nx),(6,.vl (nx+1) so 0 o2.length),(7,.i6 t)]/\t<o2.length/\V=⟨H,M⟩/\Ff kp kr st nm P h nx o2 nx (nx+1) so H M) (bV P.gen x).length
   ⟨0,o,so,H,M,rfl,Nat.zero_le _,Vs,pT,rfl,rfl,hr⟩ ?_ ?_ hr.le
  ·rintro _ _ ⟨so2,H2,M2,rfl,hto2,rfl,hr2⟩;refine goN ?_;have lQ:IntKind.i64.wrap ((t:Int)+1)=((t+1:Nat):Int):=by rw[p9 qq0 qq0];rfl
   refine⟨m,_,_,zN _,⟨t+1,o2,so2,H2,M2,O,rfl,hto2,rfl,hr2⟩,hr2.le,Gh.sub ?_⟩;rw[<-lQ];(repeat refine⟨rfl,?_⟩);exact trivial
  rintro _ _ _ ⟨j,o1,Np,H1,M1,rfl,hj,cJ,v05,rfl,rfl,hr1⟩;have nA:=hr1.ph p uF;refine WPU.wf fun fM _=>?_
  haveI:SuC M1 (M1+1):=⟨rfl⟩
  haveI:SuC (M1+1) (M1+2):=⟨rfl⟩
  refine goN ?_;refine eG rfl (fun h4=>?_) (fun h4=>?_)
  ·have iB:j<(bV P.gen x).length:=by simpa using h4
   obtain⟨a,ha⟩:∃a,(bV P.gen x)[j]? = some a:=⟨_,List.getElem?_eq_getElem iB⟩;have kP:aB (bV P.gen x) (j:Int)=some a:=by rw[aB,if_pos ⟨by omega,by omega⟩];simpa using ha
   have vQ:(bV P.gen x).drop j=a::(bV P.gen x).drop (j+1):=by rw[List.drop_eq_getElem_cons iB];rw[List.getElem?_eq_getElem iB]at ha;cases ha;rfl
   have lQ:IntKind.i64.wrap ((j:Int)+1)=((j+1:Nat):Int):=by rw[p9 qq0 qq0];rfl
   rw[vQ]at cJ;obtain⟨q1,FL,cJ⟩:=aI cJ;have IB:=ji FL;have hH:∀(b:B),∀k c,gt H1 k=some c->gt ((M1,b)::H1) k=some c:=fun b k c hc=>by rw[kB (fM k c hc).1];exact hc
   have EB:Ff kp kr st nm P h nx o1 nx (nx+1) Np ((M1,.row (bX nm a) 107)::H1) (M1+1):=⟨hH _ _ _ hr1.mp,hH _ _ _ hr1.vc,hr1.ks,hr1.ko,fun k hk=>by rw[kB (Nat.lt_of_lt_of_le hk hr1.le)];exact hr1.old k hk,Nat.le_succ_of_le hr1.le,hr1.lt⟩;have Bv:=EB.ph p uF;refine goN ?_;apply cE;refine goN ?_;refine c8 kP ?_;refine goN ?_;refine aK rfl (Ox Bv n FL) xR ?_;refine goN ?_;refine D8 rfl (fN.plook tb_ok (zu:=.bool false) rfl GE.h gW.h (bB mN.h) if4.h rfl (dQ rfl) (dQ rfl) EB.mp (Bv.row q1 IB) (ot Bv.row o1 0 hr1.lt)) ?_;rintro _ _ ⟨rfl,rfl⟩;rw[ob p.inj IB o1 0 hr1.lt];cases hc:o1.contains q1 with
   |true=>rw[hc]at cJ;refine goN ?_;refine eG rfl (fun h5=>by cases h5) (fun h5=>?_);refine goN ?_;refine⟨(bV P.gen x).length-(j+1),_,_,by omega,⟨j+1,o1,Np,_,M1+1,rfl,iB,cJ,v05,rfl,rfl,EB⟩,EB.le,Gh.sub ?_⟩;rw[<-lQ];(repeat refine⟨rfl,?_⟩);exact trivial|false=>
    rw[hc]at cJ;obtain⟨hol1,cJ⟩:=c6 cJ;refine goN ?_;refine eG rfl (fun h5=>?_) (fun h5=>by cases h5);refine goN ?_;have Kq:nx+1<M1:=(fM _ _ hr1.vc).1;refine RS.stepn rfl (fN.pins tb_ok (v:=.bool true) (.inl rfl) GE.h gW.h (bB mN.h) (dQ rfl) (dQ rfl) (dQ rfl) EB.mp (Bv.row q1 IB) (ot Bv.row o1 0 hr1.lt) (by rw[ob p.inj IB o1 0 hr1.lt,hc];rfl)) ?_;rintro _ _ ⟨rfl,rfl⟩;change RU _ _ _ _ _ (Sg.mk (ug ((M1,.row (bX nm a) 107)::H1) nx (.map ((FZ nm 0 o1++[(nm q1,U.bool true,o1.length)]).map pE) (o1.length+1))) (M1+1)) _;refine goN ?_;refine c5 ?_;have Wp:gt ((M1+1,.row [pt nm q1] 92)::ug ((M1,.row (bX nm a) 107)::H1) nx (.map ((FZ nm 0 o1++[(nm q1,U.bool true,o1.length)]).map pE) (o1.length+1))) (nx+1)=some (.vec (o1.map (dV nm)).flatten 92 1 Np):=by rw[aP,if_neg qq0,bS,if_neg qq0];exact EB.vc
    refine RS.w rfl (pR rfl rfl rfl rfl (DN (dV nm) [q1] gX.h gX.h iO.h rfl (fun _=>rfl) Wp (FD (dV nm) [q1] (q:=[pt nm q1]) (by simp[rowOf,aP]) rfl rfl rfl) ⟨by simp;omega,by simp;omega⟩)) ?_;refine goN ?_;refine⟨(bV P.gen x).length-(j+1),_,_,by omega,⟨j+1,o1++[q1],Np+1,_,M1+2,rfl,iB,cJ,by simp;omega,rfl,rfl,⟨?_,?_,zF _,Nat.le_succ _,fun k hk=>?_,by omega,?_⟩⟩,by show nx<=M1+2;omega,Gh.sub ?_⟩;rw[bS,if_neg qq0];show gt ((M1+1,_)::ug ((M1,_)::H1) nx _) nx=_;rw[aP,if_neg qq0,bS,if_pos rfl,EB.mp,z99];simp;rw[bS,if_pos rfl,Wp];rfl;rw[bS,if_neg qq0];show gt ((M1+1,_)::ug ((M1,_)::H1) nx _) k=_;rw[aP,if_neg qq0,bS,if_neg qq0];exact EB.old k hk;intro k hk;rcases yD.1 hk with hk |hk;exact hr1.lt k hk;simp at hk;subst hk;exact IB
    ·rw[<-lQ];(repeat refine⟨rfl,?_⟩);exact trivial
  ·refine goN ?_;have iB:j=(bV P.gen x).length:=by
    have:¬ (j:Int)<(bV P.gen x).length:=by simpa using h4
    omega
   subst iB;rw[List.drop_length]at cJ;obtain rfl:=sI cJ;exact⟨_,_,⟨Np,H1,M1,rfl,v05,rfl,hr1⟩,hr1.le,Gh.sub (by((repeat refine⟨rfl,?_⟩);exact trivial))⟩
 ·refine goN ?_;have pT:t=o.length:=by have:¬ (t:Int)<o.length:=(by simpa using h2);omega
  change cond (decide (t<o.length)) _ _=some out at O;rw[decide_eq_false qq0]at O;obtain rfl:=sI O;exact⟨_,_,⟨so,H,M,rfl,rfl,hr⟩,hr.le,Gh.sub (by((repeat refine⟨rfl,?_⟩);exact trivial))⟩
end
section
variable{kp kr st:Nat}{nm:Nat->Nat}{P:PP}{h:X (Nat×B)}{nx:Nat}
theorem PH.beq(p:PH kp kr st nm P h){i j:Nat}(hi:i<P.N.length)(hj:j<P.N.length):Nat.beq (nm i) (nm j)=Nat.beq i j:=by rw[beq_eq,beq_eq];by_cases e:i=j;simp[e];have:nm i≠nm j:=fun h=>e (p.inj i j hi hj h);simp[e,this]
theorem z5h(p:PH kp kr st nm P h){kx:Nat}(hk:gt h kx=some (.row [.ptr kp 0 0] 31))(n:Nat){a:eC}{r:Nat}(hr:sW P.N P.gen n a.to=some r)(ha:a.to<P.N.length):
  aW prog 107 (.agg (bX nm a)::[.ptr kx 0 0]) ⟨h,nx⟩ (fun u V'=>u=.bool (!Nat.beq r a.to)/\V'=⟨h,nx⟩):=by
 refine aW.wf fun hw _=>?_;have vN:=ji hr
 haveI:SuC nx (nx+1):=⟨rfl⟩
 have hp:PH kp kr st nm P ((nx,.row (bX nm a) 107)::h):=p.more fun k b hb=>by rw[kB (hw k b hb).1];exact hb
 haveI:eF ((nx,.row (bX nm a) 107)::h) kx (.row [.ptr kp 0 0] 31):=⟨by rw[kB (hw _ _ hk).1];exact hk⟩
 have hnr:=hp.node r _ (List.getElem?_eq_getElem vN);have hna:=hp.node a.to _ (List.getElem?_eq_getElem ha);refine eM 11 VC ?_;refine goN ?_;refine WPU.any tb_ok (lF:=[(3,.bool (if BinOp.neq=BinOp.eql then Nat.beq (nm r) (nm a.to)else !Nat.beq (nm r) (nm a.to)))]) (VF:=⟨(nx,.row (bX nm a) 107)::h,nx+1⟩) (fun hq=>?_) ?_
 ·repeat' first
   |exact trivial
   |refine⟨rfl,?_⟩
   |refine And.intro ?_ ?_
   |(show M9 _ _ _ _ _ _ _ _ _;refine Exists.intro _ ⟨rfl,rfl,rfl,.inl ⟨_,_,opm,_,_,Gh.refl _ _ _,Nat.le_succ _,?_⟩⟩)
   |(show M9 _ _ _ _ _ _ _ _ _;refine Exists.intro _ ⟨rfl,rfl,rfl,.inr (.inl ⟨_,_,_,yO rfl rfl xR rfl rfl rfl,Ox hp n hr,?_⟩)⟩;rintro _ _ ⟨rfl,rfl⟩;refine⟨_,_,Gh.refl _ _ _,Nat.le_succ _,?_⟩)
   |(show M9 _ _ _ _ _ _ _ _ _;refine Exists.intro _ ⟨rfl,rfl,rfl,.inr (.inr ⟨_,fN.peq tb_ok rfl (.inr rfl) gW.h (bB mN.h) (dQ rfl) (dQ rfl) hnr hna,?_⟩)⟩;rintro _ _ ⟨rfl,rfl⟩;refine⟨_,_,Gh.refl _ _ _,Nat.le_succ _,?_⟩)
  all_goals exact⟨_,⟨(nx,.row (bX nm a) 107)::h,nx+1⟩,Gh.sub (l':=[(3,.bool (if BinOp.neq=BinOp.eql then Nat.beq (nm r) (nm a.to)else !Nat.beq (nm r) (nm a.to)))]) ⟨rfl,trivial⟩,Nat.le_succ _,hq⟩
 refine goN ?_;exact th hw rfl rfl rfl (fun k hk=>kB hk) (Nat.le_succ _) (by simp[aT]) ⟨by rw[if_neg qq3,hp.beq vN ha],rfl⟩
theorem z5r{v12:Type}(q:v12->DC)(l:X v12):decide (AC q l>=0)=l.any q:=by
 unfold AC;cases hf:l.findIdx? q with
 |none=>
  rw[List.findIdx?_eq_none_iff]at hf;have:l.any q=false:=by rw[List.any_eq_false];intro x hx;simp[hf x hx]
  rw[this];rfl
 |some i=>rw[List.findIdx?_eq_some_iff_getElem]at hf;obtain⟨hi,h1,_⟩:=hf;have:l.any q=true:=List.any_eq_true.2 ⟨l[i],List.getElem_mem hi,h1⟩;rw[this];simp
theorem z94{V:Sg}{nm:Nat->Nat}{l:X eC}{g:FuncId}{fn:Func}{cap:X U}{q:eC->DC}(Cr:tb.fn g=some fn)(hb:fn.body.isSome=true)(hl:l.length<=1000000)(hg:∀a∈l,aW prog g (.agg (bX nm a)::cap) V (fun u V'=>u=.bool (q a)/\V'=V)):
  aW prog 106 [.iM (bX nm) l,.fn (.func g) [] cap] V (fun u V'=>u=.bool (l.any q)/\V'=V):=by refine eM 9 VD ?_;refine goN ?_;refine aK rfl (z7o Cr hb hl hg) JA ?_;refine goN ?_;exact C2 rfl rfl rfl (zF _) ⟨by rw[z5r],rfl⟩
end
def yR(g:Int)(x:PN):DC:=cond (x.chA != g) false x.ch
def MC(N:X PN)(g:Int)(n:Nat)(a:eC):DC:=match sW N g n a.to with
 |some r=>!Nat.beq r a.to|none=>false
def Gc(N:X PN)(g:Int)(n:Nat)(l:X eC):DC:=l.all fun a=>(sW N g n a.to).isSome
def ZQ(g:Int)(n:Nat):X Nat->X PN->Y (X PN)
 |[],N=>some N|p::l,N=>a8 N[p]? fun x=>cond (Gc N g n x.arcs) (aF (x.arcs.length<=1000000) (ZQ g n l (N.set p { x with ch:=gP g x != x.kind||(decide (((gN g x).length:Int)>0)||x.arcs.any (MC N g n)),chA:=g }))) none
def HG(g:Int)(N:X PN):X eC->Y DC
 |[]=>some false|a::l=>a8 N[a.to]? fun y=>cond (yR g y) (some true) (HG g N l)
def JX(g:Int):X Nat->DC->X PN->Y (DC×X PN)
 |[],ag,N=>some (ag,N)|p::l,ag,N=>a8 N[p]? fun x=>cond (yR g x) (JX g l ag N) (aF (x.arcs.length<=1000000) (a8 (HG g N x.arcs) fun c=>cond c (JX g l true (N.set p { x with ch:=true,chA:=g })) (JX g l ag N)))
def ZP(g:Int)(l:X Nat):Nat->X PN->Y (X PN)
 |0,_=>none|m+1,N=>a8 (JX g l false N) fun r=>cond r.1 (ZP g l m r.2) (some r.2)
def Lo(g:Int)(n:Nat)(l:X Nat)(N:X PN):Y (X PN):=aF (l.length<=1000000) (a8 (ZQ g n l N) fun N1=>ZP g l n N1)
section
variable{kp kr st:Nat}{nm:Nat->Nat}{P:PP}{h:X (Nat×B)}{nx:Nat}
structure tX(kp kr st:Nat)(nm:Nat->Nat)(P:PP)(h:X (Nat×B))(nx:Nat)(N:X PN)(H:X (Nat×B))(M:Nat):Prop where
 ph:PH kp kr st nm { P with N:=N } H
 bx:gt H nx=some (.row [.ptr kp 0 0] 31)
 fr:∀k,k<nx->(∀i,i<P.N.length->nm i≠k)->gt H k=gt h k
 le:nx<M
 len:N.length=P.N.length
theorem tX.put{N:X PN}{H:X (Nat×B)}{M:Nat}(m:tX kp kr st nm P h nx N H M){i:Nat}{x:PN}(y:PN)(hx:N[i]? = some x)(hy:kE P.N.length y):tX kp kr st nm P h nx (N.set i y) (ug H (nm i) (.row (oG nm y) 103)) M:=by have hi:i<N.length:=(zG.1 hx).1;refine⟨m.ph.put y hx (by show kE N.length y;rw[m.len];exact hy),?_,fun k hk hn=>?_,m.le,by simp[m.len]⟩;rw[bS,if_neg fun e=>?_];exact m.bx;have:=m.bx;rw[<-e,m.ph.node i x hx]at this;simp at this;rw[bS,if_neg (hn i (by rw[<-m.len];exact hi))];exact m.fr k hk hn
theorem tX.wf{N:X PN}{H:X (Nat×B)}{M:Nat}(m:tX kp kr st nm P h nx N H M){i:Nat}{x:PN}(hx:N[i]? = some x):kE P.N.length x:=by have:=m.ph.wf x (zX hx);rw[show({ P with N:=N }:PP).N.length=P.N.length from m.len]at this;exact this
theorem tX.more{N:X PN}{H:X (Nat×B)}{M:Nat}(m:tX kp kr st nm P h nx N H M)(hw:oI ⟨H,M⟩)(b:B):tX kp kr st nm P h nx N ((M,b)::H) (M+1):=
 ⟨m.ph.more fun k c hc=>by rw[kB (hw k c hc).1];exact hc,by rw[kB m.le];exact m.bx,fun k hk hn=>by rw[kB (Nat.lt_trans hk m.le)];exact m.fr k hk hn,Nat.lt_succ_of_lt m.le,m.len⟩
theorem tX.gb{N:X PN}{H:X (Nat×B)}{M:Nat}(m:tX kp kr st nm P h nx N H M):eF H nx (.row [.ptr kp 0 0] 31):=⟨m.bx⟩
theorem z9n(p:PH kp kr st nm P h)(n:Nat){l:X Nat}(hl:∀i∈l,i<P.N.length){N':X PN}(O:Lo P.gen n l P.N=some N'):
  aW prog 68 [.ptr kp 0 0,.iM (dV nm) l] ⟨h,nx⟩ (fun u V'=>∃H M,u=.tup []/\V'=⟨H,M⟩/\PH kp kr st nm { P with N:=N' } H/\N'.length=P.N.length/\nx<=M/\∀k,k<nx->(∀i,i<P.N.length->nm i≠k)->gt H k=gt h k):=by
 refine aW.wf fun uF _=>?_;obtain⟨rL,O⟩:=c6 O;obtain⟨N1,h1,h2⟩:=aI O
 haveI:SuC nx (nx+1):=⟨rfl⟩
 refine eM 120 Yh ?_;refine goN ?_;have v07:tX kp kr st nm P h nx P.N ((nx,.row [.ptr kp 0 0] 31)::h) (nx+1):=⟨p.more fun k b hb=>by rw[kB (uF k b hb).1];exact hb,by simp[aP],fun k hk _=>kB hk,zN _,rfl⟩;refine gL (fun m tm V=>∃(t:Nat)(N:X PN)(H:X (Nat×B))(M:Nat),m=l.length-t/\t<=l.length/\ZQ P.gen n (l.drop t) N=some N1/\tm=fr 120 [(1,.iM (dV nm) l),(2,.ptr nx 0 0),(18,.iM (dV nm) l),(19,.i6 l.length),(20,.i6 t)]/\V=⟨H,M⟩/\tX kp kr st nm P h nx N H M)
  (fun tm V=>∃(H:X (Nat×B))(M:Nat),tm=fr 120 [(1,.iM (dV nm) l),(2,.ptr nx 0 0)]/\V=⟨H,M⟩/\tX kp kr st nm P h nx N1 H M) l.length
  ⟨0,P.N,_,nx+1,rfl,Nat.zero_le _,h1,rfl,rfl,v07⟩ ?_ ?_ (Nat.le_succ _)
 ·rintro _ _ ⟨H,M,rfl,rfl,hm⟩;refine goN ?_;refine gL (fun m tm V=>∃(ag:DC)(N:X PN)(H:X (Nat×B))(M:Nat),cond ag (ZP P.gen l m N) (some N)=some N'/\tm=fr 120 [(1,.iM (dV nm) l),(2,.ptr nx 0 0),(9,.bool ag)]/\V=⟨H,M⟩/\tX kp kr st nm P h nx N H M)
   (fun tm V=>∃(H:X (Nat×B))(M:Nat),tm=fr 120 []/\V=⟨H,M⟩/\tX kp kr st nm P h nx N' H M) n
   ⟨true,N1,H,M,h2,rfl,rfl,hm⟩ ?_ ?_ (Nat.le_of_lt hm.le)
  rintro _ _ ⟨H,M,rfl,rfl,hm⟩;exact⟨.inl rfl,[],rfl,.tup [],_,Nat.le_of_lt hm.le,Gh.refl _ _ _,H,M,rfl,rfl,hm.ph,hm.len,Nat.le_of_lt hm.le,hm.fr⟩;rintro m _ _ ⟨ag,N,H,M,yZ,rfl,rfl,hm⟩;refine goN ?_;refine eG rfl (fun h3=>?_) (fun h3=>?_)
  ·subst h3;cases m with
   |zero=>cases yZ|succ m=>
   obtain⟨r,hr,yZ⟩:=aI (show a8 (JX P.gen l false N) (fun r=>cond r.1 (ZP P.gen l m r.2) (some r.2))=some N' from yZ);refine goN ?_;apply cE;refine goN ?_;refine gL (fun m tm V=>∃(t:Nat)(ag:DC)(N:X PN)(H:X (Nat×B))(M:Nat),m=l.length-t/\t<=l.length/\JX P.gen (l.drop t) ag N=some r/\tm=fr 120 [(1,.iM (dV nm) l),(2,.ptr nx 0 0),(9,.bool ag),(68,.iM (dV nm) l),(69,.i6 l.length),(70,.i6 t)]/\V=⟨H,M⟩/\tX kp kr st nm P h nx N H M)
    (fun tm V=>∃(H:X (Nat×B))(M:Nat),tm=fr 120 [(1,.iM (dV nm) l),(2,.ptr nx 0 0),(9,.bool r.1)]/\V=⟨H,M⟩/\tX kp kr st nm P h nx r.2 H M) l.length
    ⟨0,false,N,H,M,rfl,Nat.zero_le _,hr,rfl,rfl,hm⟩ ?_ ?_ (Nat.le_of_lt hm.le)
   ·rintro _ _ ⟨H,M,rfl,rfl,hm⟩;refine goN ?_;exact⟨m,_,_,zN _,⟨r.1,r.2,H,M,yZ,rfl,rfl,hm⟩,Nat.le_of_lt hm.le,Gh.sub (by((repeat refine⟨rfl,?_⟩);exact trivial))⟩
   rintro _ _ _ ⟨t,ag,N,H,M,rfl,ht,cJ,rfl,rfl,hm⟩;refine goN ?_;refine eG rfl (fun h4=>?_) (fun h4=>?_)
   ·have eW:t<l.length:=by simpa using h4
    obtain⟨q,hq⟩:∃a,l[t]? = some a:=⟨_,List.getElem?_eq_getElem eW⟩;have kP:aB l (t:Int)=some q:=by rw[aB,if_pos ⟨by omega,by omega⟩];simpa using hq
    have vQ:l.drop t=q::l.drop (t+1):=by rw[List.drop_eq_getElem_cons eW];rw[List.getElem?_eq_getElem eW]at hq;cases hq;rfl
    have lQ:IntKind.i64.wrap ((t:Int)+1)=((t+1:Nat):Int):=by rw[p9 qq0 qq0];rfl
    rw[vQ]at cJ;obtain⟨x,hx,cJ⟩:=aI cJ;have fO:=hm.wf hx
    haveI:=hm.ph.gp
    haveI:=hm.ph.gn hx
    haveI:=hm.gb
    refine goN ?_;apply cE;refine goN ?_;refine c8 kP ?_;refine goN ?_;refine dE [] ?_;refine cT ?_;refine dL rfl (fun s=>Dh s x.ch x.chA P.gen) PU ?_;refine cT ?_;refine bD ⟨by kernel_rfl,trivial,?_⟩;refine goN ?_;refine eG rfl (fun h5=>?_) (fun h5=>?_)
    ·rw[show yR P.gen x=true from h5]at cJ;refine goN ?_;refine⟨l.length-(t+1),_,_,by omega,⟨t+1,ag,N,H,M,rfl,eW,cJ,rfl,rfl,hm⟩,Nat.le_of_lt hm.le,Gh.sub ?_⟩;rw[<-lQ];(repeat refine⟨rfl,?_⟩);exact trivial
    rw[show yR P.gen x=false from h5]at cJ;obtain⟨lT,cJ⟩:=c6 cJ;obtain⟨c,hc,cJ⟩:=aI cJ;have hpi2:JX P.gen (l.drop (t+1)) (cond c true ag) (cond c (N.set q { x with ch:=true,chA:=P.gen }) N)=some r:=by cases c<;>exact cJ
    refine goN ?_;refine gL (fun m tm V=>∃(j:Nat)(H:X (Nat×B))(M:Nat),m=x.arcs.length-j/\j<=x.arcs.length/\HG P.gen N (x.arcs.drop j)=some c/\tm=fr 120 [(1,.iM (dV nm) l),(2,.ptr nx 0 0),(9,.bool ag),(11,pt nm q),(68,.iM (dV nm) l),(69,.i6 l.length),(70,.i6 t),(90,.iM (bX nm) x.arcs),(91,.i6 x.arcs.length),(92,.i6 j)]/\V=⟨H,M⟩/\tX kp kr st nm P h nx N H M)
     (fun tm V=>∃(H:X (Nat×B))(M:Nat),tm=fr 120 [(1,.iM (dV nm) l),(2,.ptr nx 0 0),(9,.bool (cond c true ag)),(68,.iM (dV nm) l),(69,.i6 l.length),(70,.i6 t)]/\V=⟨H,M⟩/\tX kp kr st nm P h nx (cond c (N.set q { x with ch:=true,chA:=P.gen }) N) H M) x.arcs.length
     ⟨0,H,M,rfl,Nat.zero_le _,hc,rfl,rfl,hm⟩ ?_ ?_ (Nat.le_of_lt hm.le)
    ·rintro _ _ ⟨H,M,rfl,rfl,hm⟩;refine goN ?_;refine⟨l.length-(t+1),_,_,by omega,⟨t+1,_,_,H,M,rfl,eW,hpi2,rfl,rfl,hm⟩,Nat.le_of_lt hm.le,Gh.sub ?_⟩;rw[<-lQ];(repeat refine⟨rfl,?_⟩);exact trivial
    rintro _ _ _ ⟨j,H,M,rfl,hj,hc,rfl,rfl,hm⟩;refine WPU.wf fun fM _=>?_
    haveI:SuC M (M+1):=⟨rfl⟩
    refine goN ?_;refine eG rfl (fun h6=>?_) (fun h6=>?_)
    ·have iB:j<x.arcs.length:=by simpa using h6
     obtain⟨a,ha⟩:∃a,x.arcs[j]? = some a:=⟨_,List.getElem?_eq_getElem iB⟩;have BI:aB x.arcs (j:Int)=some a:=by rw[aB,if_pos ⟨by omega,by omega⟩];simpa using ha
     have IK:x.arcs.drop j=a::x.arcs.drop (j+1):=by rw[List.drop_eq_getElem_cons iB];rw[List.getElem?_eq_getElem iB]at ha;cases ha;rfl
     have B5:IntKind.i64.wrap ((j:Int)+1)=((j+1:Nat):Int):=by rw[p9 qq0 qq0];rfl
     rw[IK]at hc;obtain⟨y,hy,hc⟩:=aI hc;have uK:=hm.more fM (.row (bX nm a) 107)
     haveI:=uK.ph.gp
     haveI:=uK.ph.gn hx
     haveI:=uK.ph.gn hy
     haveI:=uK.gb
     refine goN ?_;apply cE;refine goN ?_;refine c8 BI ?_;refine goN ?_;refine dE [] ?_;refine cT ?_;refine dL rfl (fun s=>Dh s y.ch y.chA P.gen) PU ?_;refine cT ?_;refine bD ⟨by kernel_rfl,trivial,?_⟩;refine goN ?_;refine eG rfl (fun h7=>?_) (fun h7=>?_)
     ·rw[show yR P.gen y=true from h7]at hc;obtain rfl:=sI hc;refine goN ?_;exact⟨_,_,⟨_,M+1,rfl,rfl,uK.put { x with ch:=true,chA:=P.gen } hx ⟨fO.arcs,fO.fw,fO.more,fO.cp⟩⟩,Nat.le_of_lt uK.le,Gh.sub (by((repeat refine⟨rfl,?_⟩);exact trivial))⟩
     ·rw[show yR P.gen y=false from h7]at hc;refine goN ?_;refine⟨x.arcs.length-(j+1),_,_,by omega,⟨j+1,_,M+1,rfl,iB,hc,rfl,rfl,uK⟩,Nat.le_of_lt uK.le,Gh.sub ?_⟩;rw[<-B5];(repeat refine⟨rfl,?_⟩);exact trivial
    ·refine goN ?_;have iB:j=x.arcs.length:=by
      have:¬ (j:Int)<x.arcs.length:=by simpa using h6
      omega
     subst iB;rw[List.drop_length]at hc;obtain rfl:=sI hc;exact⟨_,_,⟨H,M,rfl,rfl,hm⟩,Nat.le_of_lt hm.le,Gh.sub (by((repeat refine⟨rfl,?_⟩);exact trivial))⟩
   ·refine goN ?_;have eW:t=l.length:=by
     have:¬ (t:Int)<l.length:=by simpa using h4
     omega
    subst eW;rw[List.drop_length]at cJ;obtain rfl:=sI cJ;exact⟨_,_,⟨H,M,rfl,rfl,hm⟩,Nat.le_of_lt hm.le,Gh.sub (by((repeat refine⟨rfl,?_⟩);exact trivial))⟩
  subst h3;obtain rfl:=sI yZ;refine goN ?_;exact⟨_,_,⟨H,M,rfl,rfl,hm⟩,Nat.le_of_lt hm.le,Gh.sub trivial⟩
 ·rintro _ _ _ ⟨t,N,H,M,rfl,ht,cJ,rfl,rfl,hm⟩;refine goN ?_;refine eG rfl (fun h4=>?_) (fun h4=>?_)
  ·have eW:t<l.length:=by simpa using h4
   obtain⟨q,hq⟩:∃a,l[t]? = some a:=⟨_,List.getElem?_eq_getElem eW⟩;have kP:aB l (t:Int)=some q:=by rw[aB,if_pos ⟨by omega,by omega⟩];simpa using hq
   have vQ:l.drop t=q::l.drop (t+1):=by rw[List.drop_eq_getElem_cons eW];rw[List.getElem?_eq_getElem eW]at hq;cases hq;rfl
   have lQ:IntKind.i64.wrap ((t:Int)+1)=((t+1:Nat):Int):=by rw[p9 qq0 qq0];rfl
   rw[vQ]at cJ;obtain⟨x,hx,cJ⟩:=aI cJ;obtain⟨bY,cJ⟩:Gc N P.gen n x.arcs=true/\_:=by rcases hc:Gc N P.gen n x.arcs with _|_;rw[hc]at cJ;cases cJ;rw[hc]at cJ;exact⟨rfl,cJ⟩
   obtain⟨lT,cJ⟩:=c6 cJ;have fO:=hm.wf hx
   haveI:=hm.ph.gp
   haveI:=hm.ph.gn hx
   haveI:=hm.gb
   refine goN ?_;apply cE;refine goN ?_;refine c8 kP ?_;refine goN ?_;refine dE [] ?_;refine cT ?_;refine dL rfl (fun s=>PO s nm x.more x.moA P.gen) xT ?_;refine cT ?_;refine bD ⟨by kernel_rfl,trivial,?_⟩;refine goN ?_;refine RS.w rfl (we rfl rfl) ?_;refine aK rfl (z94 (q:=MC N P.gen n) VC rfl lT (fun a ha=>?_)) VD ?_;have h6:=List.all_eq_true.1 bY a ha;obtain⟨r,hr⟩:=Option.isSome_iff_exists.1 h6;have h7:=z5h (nx:=M) hm.ph hm.bx n hr (by show a.to<N.length;rw[hm.len];exact fO.arcs a ha);have h8:MC N P.gen n a= !Nat.beq r a.to:=by simp only[MC,hr]
   rw[h8];exact h7;refine goN ?_;have hF3:∀{b:DC},(gP P.gen x != x.kind||(decide (((gN P.gen x).length:Int)>0)||x.arcs.any (MC N P.gen n)))=b->tX kp kr st nm P h nx (N.set q { x with ch:=b,chA:=P.gen }) (ug H (nm q) (.row (oG nm { x with ch:=b,chA:=P.gen }) 103)) M/\ZQ P.gen n (l.drop (t+1)) (N.set q { x with ch:=b,chA:=P.gen })=some N1:=fun{b} hb=>⟨hm.put _ hx ⟨fO.arcs,fO.fw,fO.more,fO.cp⟩,by rw[<-hb];exact cJ⟩;cases Xd:gP P.gen x != x.kind with
   |true=>obtain⟨g1,g2⟩:=hF3 (b:=true) (by rw[Xd];rfl);refine dE [] ?_;refine cT ?_;refine RD.call rfl (iL rfl xQ rfl).2 (Ow hm.ph hx) rfl rfl ?_;refine cT ?_;refine qM ?_;refine bD ⟨by kernel_rfl,trivial,?_⟩;refine goN ?_;refine⟨l.length-(t+1),_,_,by omega,⟨t+1,_,_,M,rfl,eW,g2,rfl,rfl,g1⟩,Nat.le_of_lt hm.le,Gh.sub ?_⟩;rw[<-lQ];(repeat refine⟨rfl,?_⟩);exact trivial
   |false=>
    cases PA:decide (((cond (x.moA != P.gen) [] x.more).length:Int)>0)with
    |true=>obtain⟨g1,g2⟩:=hF3 (b:=true) (by rw[Xd,show decide (((gN P.gen x).length:Int)>0)=true from PA];rfl);refine dE [] ?_;refine cT ?_;refine RD.call rfl (iL rfl xQ rfl).2 (Ow hm.ph hx) rfl rfl ?_;refine cT ?_;refine qM ?_;refine bD ⟨by kernel_rfl,trivial,?_⟩;refine goN ?_;refine⟨l.length-(t+1),_,_,by omega,⟨t+1,_,_,M,rfl,eW,g2,rfl,rfl,g1⟩,Nat.le_of_lt hm.le,Gh.sub ?_⟩;rw[<-lQ];(repeat refine⟨rfl,?_⟩);exact trivial
    |false=>obtain⟨g1,g2⟩:=hF3 (b:=x.arcs.any (MC N P.gen n)) (by rw[Xd,show decide (((gN P.gen x).length:Int)>0)=false from PA];rfl);refine dE [] ?_;refine cT ?_;refine RD.call rfl (iL rfl xQ rfl).2 (Ow hm.ph hx) rfl rfl ?_;refine cT ?_;refine qM ?_;refine bD ⟨by kernel_rfl,trivial,?_⟩;refine goN ?_;refine⟨l.length-(t+1),_,_,by omega,⟨t+1,_,_,M,rfl,eW,g2,rfl,rfl,g1⟩,Nat.le_of_lt hm.le,Gh.sub ?_⟩;rw[<-lQ];(repeat refine⟨rfl,?_⟩);exact trivial
  ·refine goN ?_;have eW:t=l.length:=by
    have:¬ (t:Int)<l.length:=by simpa using h4
    omega
   subst eW;rw[List.drop_length]at cJ;obtain rfl:=sI cJ;exact⟨_,_,⟨H,M,rfl,rfl,hm⟩,Nat.le_of_lt hm.le,Gh.sub (by((repeat refine⟨rfl,?_⟩);exact trivial))⟩
end
end Go.Proofs
