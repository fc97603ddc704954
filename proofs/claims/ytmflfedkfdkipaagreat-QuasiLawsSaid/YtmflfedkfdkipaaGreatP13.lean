import Derived.LaidEqlPtr
import Derived.Test.YtmflfedkfdkipaaGreatP12
set_option linter.all false
namespace Go.Vx
open Go Go.Rx
section
variable{P:Uz}{T:Tb}(hT:iK P T)
include hT
theorem z04{tp te:O}{sz:Nat}(hd:T.und tp=some (.pointer te))(hs:c6 T te=some (sz+1))(d:Nat){a b:Addr}{ca cb:Bo A}{ta tb:O}(w:Tz)(ha:w.heap[a.block]? = some (.cells ca ta (0,0)))(hb:w.heap[b.block]? = some (.cells cb tb (0,0))):
  (Op.equalIn (d+1) tp (.pointer (some a)) (.pointer (some b))).run P w=.ok (decide (a=b)) w:=by by_cases e:a=b;subst e;simp[Op.equalIn,eU hT w hd,lG hT w hs,run_sameAddr_same];simp[Op.equalIn,eU hT w hd,lG hT w hs,run_sameAddr_other w e ha hb,e]
theorem z03{tp te:O}{sz:Nat}(hd:T.und tp=some (.pointer te))(hs:c6 T te=some (sz+1)){a b:Addr}{ca cb:Bo A}{ta tb:O}(w:Tz)(ha:w.heap[a.block]? = some (.cells ca ta (0,0)))(hb:w.heap[b.block]? = some (.cells cb tb (0,0))):
  (Op.equal tp (.pointer (some a)) (.pointer (some b))).run P w=.ok (decide (a=b)) w:=z04 hT hd hs 9999 w ha hb
end
variable{x:Cx}
variable{k:Nat}
variable{l:Z U}
variable{e:O}
theorem row_at(hx:i8 x){m:Nm}{w:Tz}(hf:Fits m x.s w){i:Nat}(hg:gt x.X.h k=some (.row l e))(hi:x.Y k=some i):m.sh i=0/\∃c,w.heap[m.blk i]? = some (.cells c e (0,0)):=by obtain⟨_,_,j,l',hj,hl,_⟩:=hx.ok k _ hg;rw[hi]at hj;cases hj;have:=hf.ok i _ hl;simp only[uD,wW]at this;exact⟨this.1,_,this.2⟩
variable{e':O}
theorem z67(hx:i8 x){m:Nm}{w:Tz}(hf:Fits m x.s w){i k' i':Nat}{l':Z U}(hg:gt x.X.h k=some (.row l e))(hi:x.Y k=some i)(rC:gt x.X.h k'=some (.row l' e'))(gU:x.Y k'=some i'):(m.blk i=m.blk i')↔k=k':=by constructor;intro h;obtain⟨_,_,j,r,hj,hl,_⟩:=hx.ok k _ hg;rw[hi]at hj;cases hj;obtain⟨_,_,j',r',oS,xN,_⟩:=hx.ok k' _ rC;rw[gU]at oS;cases oS;by_cases e:i=i';subst e;exact hx.inj k k' _ _ i hg rC hi gU;exact absurd h (hf.inj i i' _ _ hl xN e rfl);rintro rfl;rw[hi]at gU;cases gU;rfl
theorem Mc{v:A}(hg:gt x.X.h k=some (.row l e))(hr:aB x (.ptr k 0 0) v):∃i,x.Y k=some i/\v=.pointer (some ⟨i,0,none⟩):=by simp only[aB]at hr;obtain⟨_,h2⟩:=hr.2.2 _ hg;exact h2 rfl
section
variable{C:PG}{T:Tb}(hT:iK C.prog T)
include hT
theorem eT.peq{X:Sg}{tm:Z U}{o:Oper}{b:BinOp}{t ty te:O}{sz k':Nat}{xo yo:Jp}{l':Z U}(ho:o.op=.binOp b t xo yo ty)(hb:b=.eql\/b=.neq)(hd:T.und t=some (.pointer te))(hs:c6 T te=some (sz+1))(hx:bS tm xo=some (.ptr k 0 0))(hy:bS tm yo=some (.ptr k' 0 0))(hg:gt X.h k=some (.row l e))(rC:gt X.h k'=some (.row l' e')):
  eT C X tm o (fun u X'=>u=.bool (if b=.eql then Nat.beq k k' else !Nat.beq k k')/\X'=X):=fun F x tv m w a next Q eW st hG hn ro eR=>by
 subst eW;obtain⟨vx,ex,rx⟩:=fI st.e hx;obtain⟨vy,ey,ry⟩:=fI st.e hy;obtain⟨i,hi,rfl⟩:=Mc hg rx;obtain⟨i',gU,rfl⟩:=Mc rC ry;have hf:=st.fits.fits;obtain⟨s1,c1,h1⟩:=row_at st.h hf hg hi;obtain⟨s2,c2,h2⟩:=row_at st.h hf rC gU;have Ar:decide ((⟨m.blk i,m.sh i+0,none⟩:Addr)=⟨m.blk i',m.sh i'+0,none⟩)=Nat.beq k k':=by rw[s1,s2,beq_eq];have:=z67 st.h hf hg hi rC gU;by_cases e:k=k';rw[decide_eq_true e,this.2 e];simp;have h3:m.blk i≠m.blk i':=fun h=>e (this.1 h);rw[decide_eq_false e];simp[h3]
 have SH:a.eval xo=.pointer (some ⟨m.blk i,m.sh i+0,none⟩):=by have he:=(st.act.evalO ex).at;simp only[ren]at he;exact he.symm
 have Av:a.eval yo=.pointer (some ⟨m.blk i',m.sh i'+0,none⟩):=by have he:=(st.act.evalO ey).at;simp only[ren]at he;exact he.symm
 have hp:=z03 hT hd hs (a:=⟨m.blk i,m.sh i+0,none⟩) (b:=⟨m.blk i',m.sh i'+0,none⟩) w h1 h2;rw[Ar]at hp;simp only[Nat.add_zero]at hp;have cG:(execOp a.eval o).run C.prog w=.ok (.value (.bool (if b=.eql then Nat.beq k k' else !Nat.beq k k'))) w:=by simp only[execOp,ho,SH,Av];rcases hb with rfl |rfl;simp[eqGuard,binOp,hp];simp[eqGuard,binOp,hp]
 refine vE (by rw[ho];intro c hc;cases hc) ?_;unfold Oper.wp;rw[cG];have aO:=bQ.refl st.fits;exact hn _ x (A9 tv o.dst (.bool (if b=.eql then Nat.beq k k' else !Nat.beq k k'))) m w _ ⟨rfl,rfl⟩ ⟨st.h,st.fr,JO st.e (by simp[aB]) _,st.fits,st.act.put (vG fun _=>by simp[ren]) o.dst⟩ aO (Ke.refl _ _) (zF _) (G4 _ _ _)
end
def pE(e:Nat×U×Nat):ME:=⟨.ptr e.1 0 0,e.2.1,e.2.2⟩
def uL(k:Nat):Z (Nat×U×Nat)->I U
 |[]=>none|e::es=>cond (Nat.beq e.1 k) (some e.2.1) (uL k es)
def isRow(h:Z (Nat×B))(k:Nat):Prop:=∃l e,gt h k=some (.row l e)
theorem nI.uncons{e:ME}{es:Z ME}{vs:Z MapEntry}(h:nI x (e::es) vs):∃v pL,vs=v::pL/\aB x e.key v.key/\aB x e.val v.val/\v.born=e.born/\nI x es pL:=by obtain⟨h1,h2⟩:=h;rcases vs with _|⟨v,vs⟩;simp at h1;obtain⟨v',e1,e2,e3,e4⟩:=h2 0 e rfl;simp at e1;subst e1;refine⟨v,vs,rfl,e2,e3,e4,by simpa using h1,fun i e he=>?_⟩;have:=h2 (i+1) e (by simpa using he);simpa using this
section
variable{P:Uz}{T:Tb}(hT:iK P T){x:Cx}(hx:i8 x){m:Nm}{w:Tz}(hf:Fits m x.s w){kt te:O}{sz:Nat}(hd:T.und kt=some (.pointer te))(hs:c6 T te=some (sz+1))
include hT hx hf hd hs
theorem qt6{k i0:Nat}(hk:isRow x.X.h k)(hi:x.Y k=some i0):∀(es:Z (Nat×U×Nat))(vs:Z MapEntry)(i:Nat),(∀e∈es,isRow x.X.h e.1)->nI x (es.map pE) vs->
  ∃r,(Instr.findAsking kt (.pointer (some ⟨m.blk i0,m.sh i0,none⟩)) (vs.map (dM m)) i).run P w=.ok r w/\(uL k es=none->r=none)/\∀u,uL k es=some u->∃j v,v∈vs/\r=some (j,ren m v.val)/\aB x u v.val
 |[],vs,i,_,hr=>by
  have:vs=[]:=by have:=hr.1;simpa using this.symm
  subst this;exact⟨none,by simp[Instr.findAsking],fun _=>rfl,fun u hu=>by simp[uL]at hu⟩
 |e::es,vs,i,he,hr=>by
  obtain⟨v,vs,rfl,Ib,hv1,_,NK⟩:=nI.uncons hr;obtain⟨l,t,hg⟩:=hk;obtain⟨l',t',rC⟩:=he e (by simp);obtain⟨i1,HF,nL⟩:=Mc rC Ib;obtain⟨s1,c1,h1⟩:=row_at hx hf hg hi;obtain⟨s2,c2,h2⟩:=row_at hx hf rC HF;have hq:=z03 hT hd hs (a:=⟨m.blk i0,m.sh i0,none⟩) (b:=⟨m.blk i1,m.sh i1+0,none⟩) w h1 h2;have Ar:decide ((⟨m.blk i0,m.sh i0,none⟩:Addr)=⟨m.blk i1,m.sh i1+0,none⟩)=Nat.beq e.1 k:=by rw[s1,s2,beq_eq];have:=z67 hx hf hg hi rC HF;by_cases uR:k=e.1;rw[decide_eq_true (show e.1=k from uR.symm),this.2 uR];simp;have h3:m.blk i0≠m.blk i1:=fun h=>uR (this.1 h);rw[decide_eq_false (show ¬ e.1=k from fun h=>uR h.symm)];simp[h3]
  rw[Ar]at hq;obtain⟨r,g1,g2,g3⟩:=qt6 ⟨l,t,hg⟩ hi es vs (i+1) (fun e xP=>he e (by simp[xP])) NK;have nY:ren m v.key=.pointer (some ⟨m.blk i1,m.sh i1+0,none⟩):=by simp[nL,ren]
  cases hb:Nat.beq e.1 k with|true=>rw[hb]at hq;refine⟨some (i,ren m v.val),?_,fun h=>?_,fun u hu=>?_⟩;simp only[zQ,Instr.findAsking,dM,nY,zK,hq,zJ,if_true,zL];simp[uL,hb]at h;simp only[uL,hb,zC,zA]at hu;subst hu;exact⟨i,v,by simp,rfl,hv1⟩|false=>rw[hb]at hq;refine⟨r,?_,fun h=>?_,fun u hu=>?_⟩;simp only[zQ,Instr.findAsking,dM,nY,zK,hq,zJ,Bool.false_eq_true,if_false];exact g1;simp only[uL,hb,zD]at h;exact g2 h;simp only[uL,hb,zD]at hu;obtain⟨j,v',q1,q2,q3⟩:=g3 u hu;exact⟨j,v',by simp[q1],q2,q3⟩
theorem qpi{i0:Nat}(hk:isRow x.X.h k)(hi:x.Y k=some i0)(es:Z (Nat×U×Nat))(vs:Z MapEntry)(he:∀e∈es,isRow x.X.h e.1)(hr:nI x (es.map pE) vs):
  ∃r,(Instr.findKey kt (.pointer (some ⟨m.blk i0,m.sh i0,none⟩)) (vs.map (dM m))).run P w=.ok r w/\(uL k es=none->r=none)/\∀u,uL k es=some u->∃j v,v∈vs/\r=some (j,ren m v.val)/\aB x u v.val:=by
 obtain⟨r,h1,h2,h3⟩:=qt6 hT hx hf hd hs hk hi es vs 0 he hr;refine⟨r,?_,h2,h3⟩;unfold Instr.findKey;simp only[zK,eU hT w hd,zJ];cases vs with
 |nil=>simp only[List.map_nil,Instr.findAsking,zL,Result.ok.injEq,and_true]at h1;subst h1;simp[Instr.findNow]|cons v vs=>simp only[zQ,Instr.findNow,Instr.sameNow];exact h1
omit hx hf hs in
theorem iy(b:BQ)(n:Nat)(v:A):(Instr.checkKey b (n+1) kt v).run P w=.ok () w:=by simp[Instr.checkKey,eU hT w hd]
end
section
variable{C:PG}{T:Tb}(hT:iK C.prog T)
include hT
variable{X:Sg}
variable{tm:Z U}
variable{o:Oper}
variable{t:O}
variable{sz:Nat}
variable{xo:Jp}
theorem eT.plook{kt et te:O}{r a' b' cl:Nat}{z:A}{zu:U}{ko:Jp}{ok:BQ}{es:Z (Nat×U×Nat)}(ho:o.op=.lookup t xo ko ok)(hd:T.und t=some (.map kt et))(hk:T.und kt=some (.pointer te))(hs:c6 T te=some (sz+1))
  (hz:T.inf et=some (a',b',z)) (hzu:iB z=some zu) (hx:bS tm xo=some (.map r)) (hy:bS tm ko=some (.ptr k 0 0)) (hg:gt X.h r=some (.map (es.map pE) cl)) (dD:isRow X.h k) (z?:∀e∈es,isRow X.h e.1):
  eT C X tm o (fun u X'=>u=(match uL k es with |some v=>cond ok (.tup [v,.bool true]) v |none=>cond ok (.tup [zu,.bool false]) zu)/\X'=X):=fun F x tv m w a next Q eW st hG hn ro eR=>by
 subst eW;obtain⟨vx,ex,rx⟩:=fI st.e hx;obtain⟨vy,ey,ry⟩:=fI st.e hy;obtain⟨l0,e0,SC⟩:=dD;obtain⟨i0,yt,rfl⟩:=Mc SC ry;obtain⟨i,es',h1,rfl,h3,h4,nW⟩:=Ea (m:=.map r) st.h rx hg;have hf:=st.fits.fits;have SH:a.eval xo=.map (some (m.blk i)):=by have he:=(st.act.evalO ex).at;simp only[ren]at he;exact he.symm
 have Av:a.eval ko=.pointer (some ⟨m.blk i0,m.sh i0,none⟩):=by have he:=(st.act.evalO ey).at;simp only[ren,Nat.add_zero]at he;exact he.symm
 have yU:w.heap[m.blk i]? = some (.map (es'.map (dM m)).toArray cl):=hf.ok i _ h3;have c9:=Fy st.fits nW;obtain⟨r,g1,g2,g3⟩:=qpi hT st.h hf hk hs ⟨l0,e0,SC⟩ yt es es' z? h4;obtain⟨hz1,Hs⟩:=C3 hT m w hz;have oN:=(JL _ _ hzu).2 x;have key:∃v,(execOp a.eval o).run C.prog w=.ok (.value (ren m v)) w/\(∀m',aJ x.s.nx m m'->ren m' v=ren m v)/\aB x (match uL k es with |some v=>cond ok (.tup [v,.bool true]) v |none=>cond ok (.tup [zu,.bool false]) zu) v:=by
  cases hp:uL k es with
  |none=>have:=g2 hp;subst this;refine⟨cond ok (.tuple #[z,.bool false]) z,?_,fun m' ha=>?_,?_⟩;simp only[execOp,ho,SH,Av,Instr.lookup,zK,eU hT w hd,zJ,Rx.run_getObj_map yU,iy hT hk,g1,zL,hz1];cases ok;simp[Hs];simp[ren,aE,Hs];have q1:=(C3 hT m' w hz).2;cases ok;simp only[zD];rw[q1,Hs];simp only[zC,ren,tH,aE];rw[q1,Hs];cases ok;exact oN;simp only[zC,aB];exact⟨_,rfl,by simp[c8,aB];exact oN,rfl⟩|some u=>
   obtain⟨j,v,q1,rfl,q3⟩:=g3 u hp;have Hx:∀m',aJ x.s.nx m m'->ren m' v.val=ren m v.val:=fun m' ha=>by have h5:=c9 m' ha;have h6:=List.map_inj_left.1 h5 v q1;simp only[dM,MapEntry.mk.injEq]at h6;exact h6.2.1
   refine⟨cond ok (.tuple #[v.val,.bool true]) v.val,?_,fun m' ha=>?_,?_⟩;simp only[execOp,ho,SH,Av,Instr.lookup,zK,eU hT w hd,zJ,Rx.run_getObj_map yU,iy hT hk,g1,zL];cases ok;simp;simp[ren,aE];cases ok;exact Hx m' ha;simp only[zC,ren,tH,aE];rw[Hx m' ha];cases ok;exact q3;simp only[zC,aB];exact⟨_,rfl,by simp[c8,aB];exact q3,rfl⟩
 obtain⟨v,k1,k2,k3⟩:=key;refine vE (by rw[ho];intro c hc;cases hc) ?_;unfold Oper.wp;rw[k1];exact hn _ x (A9 tv o.dst v) m w _ ⟨rfl,rfl⟩ ⟨st.h,st.fr,JO st.e k3 _,st.fits,st.act.put k2 o.dst⟩ (bQ.refl st.fits) (Ke.refl _ _) (zF _) (G4 _ _ _)
theorem eT.pins{kt et te:O}{r cl:Nat}{v:U}{ko vo:Jp}{es:Z (Nat×U×Nat)}(ho:o.op=.mapUpdate t xo ko vo\/o.op=.insert t xo ko vo)(hd:T.und t=some (.map kt et))(hk:T.und kt=some (.pointer te))(hs:c6 T te=some (sz+1))
  (hx:bS tm xo=some (.map r)) (hy:bS tm ko=some (.ptr k 0 0)) (hv:bS tm vo=some v) (hg:gt X.h r=some (.map (es.map pE) cl)) (dD:isRow X.h k) (z?:∀e∈es,isRow X.h e.1) (hp:uL k es=none):
  eT C X tm o (fun u X'=>u=.junk/\X'=⟨ug X.h r (.map ((es++[(k,v,cl)]).map pE) (cl+1)),X.nx⟩):=fun F x tv m w a next Q eW st hG hn ro eR=>by
 subst eW;obtain⟨vx,ex,rx⟩:=fI st.e hx;obtain⟨vy,ey,ry⟩:=fI st.e hy;obtain⟨vv,ev,rv⟩:=fI st.e hv;have ry0:=ry;obtain⟨l0,e0,SC⟩:=dD;obtain⟨i0,yt,rfl⟩:=Mc SC ry;obtain⟨i,es',h1,rfl,h3,h4,nW⟩:=Ea (m:=.map r) st.h rx hg;have hf:=st.fits.fits;have SH:a.eval xo=.map (some (m.blk i)):=by have he:=(st.act.evalO ex).at;simp only[ren]at he;exact he.symm
 have Av:a.eval ko=.pointer (some ⟨m.blk i0,m.sh i0,none⟩):=by have he:=(st.act.evalO ey).at;simp only[ren,Nat.add_zero]at he;exact he.symm
 have yU:w.heap[m.blk i]? = some (.map (es'.map (dM m)).toArray cl):=hf.ok i _ h3;have c9:=Fy st.fits nW;obtain⟨r',g1,g2,_⟩:=qpi hT st.h hf hk hs ⟨l0,e0,SC⟩ yt es es' z? h4;have:=g2 hp;subst this;obtain⟨w₁,e1,aO⟩:=Q3 (P:=C.prog) st.fits nW (es':=es'++[{ key:=.pointer (some ⟨i0,0,none⟩),val:=vv,born:=cl }]) (cl':=cl+1) (ces:=es'.map (dM m)++[{ key:=.pointer (some ⟨m.blk i0,m.sh i0,none⟩),val:=a.eval vo,born:=cl }]) (fun m' ha=>by have q1:=(st.act.evalO ey) m' ha;have q2:=(st.act.evalO ev) m' ha;rw[Av]at q1;simp only[List.map_append,zQ,List.map_nil,c9 m' ha,dM,q1,q2]);have cG:(execOp a.eval o).run C.prog w=.ok .skip w₁:=by
  have hr1:(Instr.mapUpdate t (a.eval xo) (a.eval ko) (a.eval vo)).run C.prog w=.ok () w₁:=by simp only[SH,Av,Instr.mapUpdate,zK,eU hT w hd,zJ,Rx.run_getObj_map yU,iy hT hk,g1];rw[<-e1];simp
  rcases ho with ho |ho;simp only[execOp,ho,zK,hr1,zJ,zL];simp only[execOp,ho,zK,hr1,zJ,zL]
 have iD:=Q5 st.h hg h1 h3 (h4.snoc (k:=.ptr k 0 0) (v:=v) ry0 rv cl) (cl1:=cl+1);refine vE (by rcases ho with ho |ho<;>(rw[ho];intro c hc;cases hc)) ?_;unfold Oper.wp;rw[cG];have em:(es.map pE++[⟨.ptr k 0 0,v,cl⟩])=(es++[(k,v,cl)]).map pE:=by simp[pE]
 rw[em]at iD;exact hn _ ⟨x.Y,M5 x.X r ((es++[(k,v,cl)]).map pE) (cl+1),JM x.s i (es'++[{ key:=.pointer (some ⟨i0,0,none⟩),val:=vv,born:=cl }]) (cl+1)⟩ (A9 tv o.dst undef) m w₁ _ ⟨rfl,rfl⟩
  ⟨iD.h,iD.fr F st.fr,JO (iD.mo.ke.E st.e.bel st.e) (by simp[aB]) _,aO.fits,(st.act.ext aO.agree aO.nx).put (vG fun _=>by simp[undef,ren,aE]) o.dst⟩ aO iD.mo.ke iD.mo.nx (G4 _ _ _)
theorem eT.cut0{K st off:Nat}{lo:Jp}(ho:o.op=.slice t xo (some lo) none none)(hd:T.und t=some (.slice e))(hs:c6 T e=some (sz+1))(hx:bS tm xo=some (.vl K st off 1))(hl:bS tm lo=some (.int .i64 1))
  (hg:gt X.h K=some (.vec l e' (sz+1) st)) (aN:(off+1)*(sz+1)<=l.length):
  eT C X tm o (fun u X'=>(u=.vl K (st+1) 0 0/\X'=⟨ug X.h K (.vec [] e' (sz+1) (st+1)),X.nx⟩)\/(u=.isl true []/\X'=X)):=fun F x tv m w a next Q eW bG hG hn ro eR=>by
 subst eW;obtain⟨vx,ex,rx⟩:=fI bG.e hx;obtain⟨vl,el,rl⟩:=fI bG.e hl;simp only[aB]at rl;subst rl;simp only[aB]at rx;obtain⟨_,hK,h0⟩:=rx;obtain⟨l2,e2,sz2,hb,rQ⟩:=(h0 _ hg).2 rfl;cases hb;obtain⟨_,hBk⟩:=bG.h.ok K _ hg;obtain⟨_,_,hB⟩:=hBk;rcases hB with⟨yq,_⟩|⟨i,l',gX,xM,hE⟩;rw[yq]at aN;simp at aN;rw[gX]at rQ;simp only[FL]at rQ;rcases rQ with⟨_,K?,_⟩|rfl;omega;have hf:=bG.fits.fits;obtain⟨pre,rest,nA,mY,gH⟩:=(hf.ok i _ xM:wW m i _ e' w (sz+1+2));have qE:l'.length=l.length:=hE.2.symm;have Um:1<=m.cp i-off:=by
  have h1:(off+1)*(sz+1)<=m.cp i*(sz+1):=by omega
  have:=Nat.le_of_mul_le_mul_right h1 (by omega);omega
 have Ul:bU m i (bP+off)=m.cp i-off:=by
  have h:¬ bP+off<bP:=by omega
  simp[bU,bI,h]
 have SH:a.eval xo=.slice (some ⟨m.blk i,m.sh i+off*(sz+1),none⟩) 1 (m.cp i-off):=by have he:=(bG.act.evalO ex).at;simp only[ren,Ul]at he;exact he.symm
 have oF:a.eval lo=.int .i64 1:=by have he:=(bG.act.evalO el).at;simp only[ren]at he;exact he.symm
 have hb:fD 1 1 (some (.int .i64 1)) none none=some (1,1,1):=by decide
 obtain⟨b1,_⟩:=JZ (P:=C.prog) (isS:=true) m w hb Um;simp only[zM,Option.map_none,ren,Option.isSome_none,Bool.false_eq_true,if_false]at b1;have cG:(execOp a.eval o).run C.prog w=.ok (.value (.slice (if m.cp i-off=1 then some ⟨m.blk i,m.sh i+off*(sz+1),none⟩else some ⟨m.blk i,m.sh i+off*(sz+1)+1*(sz+1),none⟩) 0 (m.cp i-off-1))) w:=by simp only[execOp,ho,SH,zM,Option.map_none,oF,Instr.sliceAt,zK,eU hT w hd,zJ,Instr.slice,b1,lG hT w hs,zL,uH]
 refine vE (by rw[ho];intro c hc;cases hc) ?_;unfold Oper.wp;rw[cG];have HC:=bG.h.bd i _ xM;by_cases hC:m.cp i-off=1;rw[if_pos hC,hC];exact hn (.isl true []) x (A9 tv o.dst (.slice (some ⟨i,off*(sz+1),none⟩) 0 0)) m w _ (.inr ⟨rfl,rfl⟩) ⟨bG.h,bG.fr,JO bG.e (by simp only[aB];exact .inr ⟨i,off*(sz+1),0,rfl,(fun _=>⟨rfl,by simp[bP]⟩),.inl trivial⟩) _,bG.fits,bG.act.put (fun m' ha=>by obtain⟨q1,q2,_⟩:=ha i HC;simp[ren,q1,q2,bU,bP]) o.dst⟩ (bQ.refl bG.fits) (Ke.refl _ _) (zF _) (G4 _ _ _);rw[if_neg hC];have aO:bQ m x.s w (m.set x.s.nx (m.blk i) (m.sh i+off*(sz+1)+1*(sz+1)) (m.cp i-off-1)) ⟨(x.s.nx,.inl ([],e',sz+1+2))::rm x.s.h i,x.s.nx+1⟩ w:=bQ.rename bG.fits xM rfl _ _ (fun _ _=>rfl) rfl rfl rfl rfl (zF _) fun m' ha=>by
  obtain⟨pI,xT,OA⟩:=ha x.s.nx (zN _);obtain⟨e1,e2,e3⟩:=xA m x.s.nx (m.blk i) (m.sh i+off*(sz+1)+1*(sz+1)) (m.cp i-off-1);have oE:(pre++aE m l'++rest).length=m.sh i+m.cp i*(sz+1):=by simp[mY];omega
  have hmul:m.cp i*(sz+1)=off*(sz+1)+1*(sz+1)+(m.cp i-off-1)*(sz+1):=by rw[<-Nat.add_mul,<-Nat.add_mul];congr 1;omega
  refine⟨(pre++aE m l'++rest).take (m.sh i+off*(sz+1)+1*(sz+1)),(pre++aE m l'++rest).drop (m.sh i+off*(sz+1)+1*(sz+1)),?_,?_,?_⟩;rw[pI,e1,nA];simp[aE];rw[xT,e2,List.length_take,oE];omega;rw[OA,e3,List.length_drop,oE];simp only[zS];omega
 have GW:=Mn bG.h hg (l1:=[]) (some x.s.nx) ⟨(x.s.nx,.inl ([],e',sz+1+2))::rm x.s.h i,x.s.nx+1⟩ (fun j b hj cT=>by
   have h1:x.s.nx≠j:=by have:=bG.h.bd j b hj;omega
   have h2:i≠j:=fun h=>cT (by rw[gX,h]);simp only[lQ,h1,if_false,Dr,h2];exact hj)
  (fun j hj=>by cases hj;exact .inr (zF _))
  (fun j b hj=>by simp only[lQ]at hj;by_cases h1:x.s.nx=j;show j<x.s.nx+1;omega;simp only[h1,if_false,Dr]at hj;by_cases h2:i=j;simp[h2]at hj;simp only[h2,if_false]at hj;have:=bG.h.bd j b hj;show j<x.s.nx+1;omega)
  rfl (fun y _ _=>.inr ⟨x.s.nx,[],rfl,by simp[lQ],aX.nil _⟩)
 exact hn (.vl K (st+1) 0 0) ⟨lB x.Y K (some x.s.nx),⟨ug x.X.h K (.vec [] e' (sz+1) (st+1)),x.X.nx⟩,⟨(x.s.nx,.inl ([],e',sz+1+2))::rm x.s.h i,x.s.nx+1⟩⟩ (A9 tv o.dst (.slice (some ⟨x.s.nx,0,none⟩) 0 bP)) _ w _ (.inl ⟨rfl,rfl⟩)
  ⟨GW.h,GW.fr F bG.fr,JO (GW.mo.ke.E bG.e.bel bG.e) (Mb bG.h hg rfl (.inr (by simp))) _,aO.fits,(bG.act.ext aO.agree aO.nx).put (MI (zN _) fun m' ha=>by rw[v01];obtain⟨_,_,e3⟩:=xA m x.s.nx (m.blk i) (m.sh i+off*(sz+1)+1*(sz+1)) (m.cp i-off-1);exact(ha x.s.nx (zN _)).2.2.trans e3) o.dst⟩ aO GW.mo.ke GW.mo.nx (G4 _ _ _)
end
def Du(p:Nat->Prop):Z Nat->Prop
 |[]=>True|i::l=>p i/\Du p l
theorem Du.mem{p:Nat->Prop}:∀{l:Z Nat},Du p l->∀i∈l,p i
 |j::l,h,i,hi=>by rcases zI.1 hi with rfl |hi;exact h.1;exact Du.mem h.2 i hi
def uc(C:PG)(T:Tb)(aA:Bo Oper)(n0 n:Nat)(l:Z (Nat×U))(X:Sg)(K:Z (Nat×U)->Sg->Prop)(i:Nat): Prop :=
  ∃o,nth aA.toList i=some o/\cA aA.toList (fr n l) o=some true/\lu n o.dst=true/\ ((∃u s1,bF T X (fr n l) o.op=some (u,s1)/\∃l' X',Gh n0 (fr n (U5 l o.dst u)) s1 (fr n l') X'/\n0<=X'.nx/\K l' X')\/ (∃f args R,jG T (fr n l) o.op=some (f,args)/\aV C.prog f args X R/\∀u s1,R u s1->∃l' X',Gh n0 (fr n (U5 l o.dst u)) s1 (fr n l') X'/\n0<=X'.nx/\K l' X')\/ (∃R,eT C X (fr n l) o R/\∀u s1,R u s1->∃l' X',Gh n0 (fr n (U5 l o.dst u)) s1 (fr n l') X'/\n0<=X'.nx/\K l' X'))
def y4:Z BQ->Nat->BQ
 |[],_=>false|b::_,0=>b
 |_::l,k+1=>y4 l k
theorem Mw:∀(d:Z BQ)(k:Nat),y4 d k=d.toArray.getD k false
 |[],k=>by simp[y4,Array.getD]
 |b::d,0=>by simp[y4,Array.getD]
 |b::d,k+1=>by rw[y4,Mw d k];simp[Array.getD]
def okA(d:Z BQ):Z Edge->BQ
 |[]=>true|e::l=>cond (Region.binds .any e) (cond (y4 d e.on) (okA d l) false) (okA d l)
theorem G'(d:Z BQ):∀(l:Z Edge),okA d l=true↔∀e∈l,Region.binds .any e=true->d.toArray.getD e.on false=true
 |[]=>by simp[okA]
 |e::l=>by have ih:=G' d l;rw[okA];rcases hb:Region.binds .any e with _|_;rw[zD,ih];exact⟨fun h x hx bV=>by rcases zI.1 hx with rfl |hx;(rw[hb]at bV;cases bV);exact h x hx bV,fun h x hx=>h x (List.mem_cons_of_mem _ hx)⟩;rw[zC];rcases hn:y4 d e.on with _|_;rw[zD];exact⟨fun h=>(by cases h),fun h=>by have:=h e (by simp) hb;rw[<-Mw,hn]at this;cases this⟩;rw[zC,ih];exact⟨fun h x hx bV=>by rcases zI.1 hx with rfl |hx;(rw[<-Mw];exact hn);exact h x hx bV,fun h x hx=>h x (List.mem_cons_of_mem _ hx)⟩
def FD(d:Z BQ):Nat->Z Oper->Z Nat
 |_,[]=>[]|i,o::os=>cond (y4 d i) (FD d (i+1) os) (cond (okA d o.after.toList) (i::FD d (i+1) os) (FD d (i+1) os))
theorem qzt(d:Z BQ): ∀(os:Z Oper)(i j:Nat),j∈FD d i os↔∃k o,j=i+k/\os[k]? = some o/\y4 d j=false/\okA d o.after.toList=true
  |[],i,j=> by simp[FD]
  |o::os,i,j=> by
    have ih:=qzt d os (i+1) j;have tl:(∃k o',j=i+1+k/\os[k]? = some o'/\y4 d j=false/\okA d o'.after.toList=true)->∃k o',j=i+k/\(o::os)[k]? = some o'/\y4 d j=false/\okA d o'.after.toList=true:=fun⟨k,o',h1,h2,h3⟩=> ⟨k+1,o',by omega,by simpa using h2,h3⟩;have ht:(∃k o',j=i+k/\(o::os)[k]? = some o'/\y4 d j=false/\okA d o'.after.toList=true)->(j=i/\y4 d i=false/\okA d o.after.toList=true)\/∃k o',j=i+1+k/\os[k]? = some o'/\y4 d j=false/\okA d o'.after.toList=true:=fun⟨k,o',h1,h2,h3,h4⟩=> by
      cases k with
      | zero => simp at h2; subst h2; have : j = i := by omega
                subst this;exact .inl ⟨rfl,h3,h4⟩
      |succ k=> exact .inr ⟨k,o',by omega,by simpa using h2,h3,h4⟩
    rw[FD];cases hn:y4 d i with
    |true=> rw[zC,ih];exact⟨tl,fun h=> (ht h).elim (fun q=> by rw[hn]at q;cases q.2.1) id⟩|false=>rw[zD];rcases hk:okA d o.after.toList with _|_;rw[zD,ih];exact⟨tl,fun h=> (ht h).elim (fun q=> by rw[hk]at q;cases q.2.2) id⟩;rw[zC,zI,ih];exact⟨fun h=> h.elim (fun q=> ⟨0,o,by omega,rfl,by rw[q];exact hn,hk⟩) tl,fun h=> (ht h).imp (·.1) id⟩
theorem tg(aA:Bo Oper)(d:Z BQ)(hd:d.length=aA.size)(i:Nat):i∈Region.ready .any aA d.toArray↔i∈FD d 0 aA.toList:=by
 rw[qzt];unfold Region.ready;rw[List.mem_filter,List.mem_range];constructor;rintro⟨hi,h⟩;have ho:aA[i]? = some aA[i]:=by simp[hi]
 simp only[ho,zM,Option.getD_some,Bool.and_eq_true,Bool.not_eq_true',Array.all_eq_true_iff_forall_mem,Bool.or_eq_true]at h;refine⟨i,aA[i],by omega,by simpa using ho,?_,(G' d _).2 fun e he hb=>?_⟩;rw[Mw];have h1:=h.1;have hl:i<d.length:=by omega
 simpa[Array.getD,hl]using h1;rcases h.2 e (by simpa using he)with h1 |h1;simp[hb]at h1;exact h1;rintro⟨k,o,rfl,h1,h2,h3⟩;rw[Nat.zero_add]at h2 ⊢;have ho:aA[k]? = some o:=by simpa using h1
 have hi:k<aA.size:=(Array.getElem?_eq_some_iff.1 ho).1;refine⟨hi,?_⟩;simp only[ho,zM,Option.getD_some,Bool.and_eq_true,Bool.not_eq_true',Array.all_eq_true_iff_forall_mem,Bool.or_eq_true];refine⟨?_,fun e he=>?_⟩;rw[Mw]at h2;have hl:k<d.length:=by omega
 simpa[Array.getD,hl]using h2;rcases hb:Region.binds .any e with _|_;exact .inl rfl;exact .inr ((G' d _).1 h3 e (by simpa using he) hb)
def RI(C:PG)(T:Tb)(aA:Bo Oper)(n0 n:Nat)(Q:Exit->Z U->Sg->Prop):Nat->Z BQ->Z (Nat×U)->Sg->Prop
 |0,d,l,X=>FD d 0 aA.toList=[]/\∃l' X',Gh n0 (fr n l) X (fr n l') X'/\n0<=X'.nx/\Q .normal (fr n l') X'|k+1,d,l,X=>(FD d 0 aA.toList).isEmpty=false/\Du (fun j=>uc C T aA n0 n l X (RI C T aA n0 n Q k (d.set j true)) j) (FD d 0 aA.toList)
section
variable{C:PG}{T:Tb}(hT:iK C.prog T){n0 n:Nat}{aA:Bo Oper}{Q:Exit->Z U->Sg->Prop}
include hT
theorem Kq{ro:I Nat}(eR:C.ro ro){F:Nat->lJ->Prop}{x0:Cx}{m0:Nm}{w0:Tz}{E:Exit->Act->Tz->Prop}{df:Z Deferred}(KW:U2 C n0 x0 m0 w0)(hf0:fN m0 x0.s w0)(hQ:∀y tm tv m w a,Q .normal tm y.X->St F y tm tv m w a->bQ m0 x0.s w0 m y.s w->Ke n0 x0 y->n0<=y.X.nx->a.defers=df->E .normal a w):
  ∀(k:Nat)(d:Z BQ)(a:Act)(w:Tz)(m:Nm)(l:Z (Nat×U))(tv:Z A)(x:Cx),d.length=aA.size->RI C T aA n0 n Q k d l x.X->St F x (fr n l) tv m w a->bQ m0 x0.s w0 m x.s w->Ke n0 x0 x->n0<=x.X.nx->a.defers=df->wpAnyIn (y7 ro) 0 C.prog .any aA E k d.toArray a w:=by
 intro k;induction k with
 |zero=>intro d a w m l tv x hd h st aO fT iE lA;obtain⟨h1,l',X',Ag,AT,hq⟩:=h;obtain⟨z,g1,g2,g3,g4,g5,g6⟩:=Ag F x tv rfl st.h st.fr st.e;have ga:=g1 m w st.fits;refine⟨?_,hQ z _ tv m w a (by rw[g2];exact hq) ⟨g3,g4,g5,ga.fits,st.act.ext ga.agree ga.nx⟩ (aO.trans ga) (fT.trans g6) (by rw[g2];exact AT) lA⟩;refine List.eq_nil_iff_forall_not_mem.2 fun i hi=>?_;rw[tg aA d hd,h1]at hi;cases hi
 |succ k ih=>
  intro d a w m l tv x HH h st aO fT iE lA;obtain⟨hr,he⟩:=h;refine⟨fun ZR=>?_,fun j hj=>?_⟩;exfalso;rcases hq:FD d 0 aA.toList with _|⟨i,q⟩;rw[hq]at hr;cases hr;have:=(tg aA d HH i).2 (by rw[hq];simp);rw[ZR]at this;cases this;rw[tg aA d HH]at hj;obtain⟨o,ho,hw,hd,hs⟩:=Du.mem he j hj;have ho:aA[j]? = some o:=by rw[i9]at ho;simpa using ho
  rw[show d.toArray.setIfInBounds j true=(d.set j true).toArray by simp];have fin:∀y u dB aI w₁ b7,(∃l' X',Gh n0 (fr n (U5 l o.dst u)) y.X (fr n l') X'/\n0<=X'.nx/\RI C T aA n0 n Q k (d.set j true) l' X')->St F y (dX (fr n l) o.dst u) dB aI w₁ b7->bQ m x.s w aI y.s w₁->Ke x.X.nx x y->b7.defers=a.defers->wpAnyIn (y7 ro) 0 C.prog .any aA E k (d.set j true).toArray b7 w₁:=fun y u dB aI w₁ b7 ⟨l',X',Ag,AT,hK⟩ bG cR eF gQ=>by rw[sL u hd]at bG;obtain⟨z,g1,g2,g3,g4,g5,g6⟩:=Ag F y dB rfl bG.h bG.fr bG.e;have ga:=g1 aI w₁ bG.fits;exact ih _ b7 w₁ aI l' dB z (by simpa using HH) (by rw[g2];exact hK) ⟨g3,g4,g5,ga.fits,bG.act.ext ga.agree ga.nx⟩ (aO.trans (cR.trans ga)) (fT.trans ((eF.le iE).trans g6)) (by rw[g2];exact AT) (gQ.trans lA)
  unfold wpOpIn;simp only[ho];rw[fe (st.act m (aJ.refl _ _)) aA o,G2 st.e hw];simp only[if_true];rcases hs with⟨u,s1,h1,h2⟩|⟨f,args,R,h1,h2,h3⟩|⟨R,h1,h3⟩;exact vE (PZ h1) (st.op hT o h1 fun y dB aI w₁ b7 e1 bG cR eF mB gQ=>fin y u dB aI w₁ b7 (by rw[e1];exact h2) bG cR eF gQ);exact vE (qb h1) (st.call hT o h1 h2 fun y u dB aI w₁ b7 hR bG cR eF mB gQ=>fin y u dB aI w₁ b7 (h3 u _ hR) bG cR eF gQ);exact h1 F x tv m w a _ _ rfl st ⟨Nat.le_trans KW.nb iE,(KW.adv hf0 aO fT).g⟩ (fun u y dB aI w₁ b7 hR bG cR eF mB gQ=>fin y u dB aI w₁ b7 (h3 u _ hR) bG cR eF gQ) ro eR
theorem WPU.any{id:Nat}{l lF:Z (Nat×U)}{X XF:Sg}(h:Q .normal (fr n lF) XF->RI C T aA n0 n Q aA.size (List.replicate aA.size false) l X)(J:Q .normal (fr n lF) XF):WPU C n0 (.region id aA true) (fr n l) X Q:=fun hn F x tv m w a b0 hx st hG hd ro eR=>by
 refine wpIn_region_any hT.mixed ?_;rw[show(Array.replicate aA.size false)=(List.replicate aA.size false).toArray by simp];refine Kq hT (ro:=ro) eR (n0:=n0) (F:=F) (x0:=x) (m0:=m) (w0:=w) (df:=a.defers) hG st.fits (fun y tm' dB m' w' a' hq h2 h3 h4 h5 h6=>⟨y,tm',dB,m',hq,h2,h3,h4,h5,by rw[h6];exact hd.adv st.fits h3⟩) aA.size _ a _ m l tv x (by simp) (hx ▸ h J) ⟨st.h,st.fr,st.e,(bQ.draw _ st.fits).fits,st.act⟩ (bQ.draw _ st.fits) (Ke.refl _ _) (hx ▸ hn) rfl
end
def nN(X:Sg):Prop:=∀k b,gt X.h k=some b->k<X.nx/\BelB X.nx b
theorem i8.wf{x:Cx}(h:i8 x):nN x.X:=fun k b hg=>⟨(h.ok k b hg).1,(h.ok k b hg).2.belB⟩
theorem aV.wf{P:Uz}{f:FuncId}{args:Z U}{X:Sg}{Q:U->Sg->Prop}(h:nN X->aF X.nx args->aV P f args X Q):aV P f args X Q:=fun F x vs m w cargs hx hh fP he eG hc=>h (hx ▸ hh.wf) (hx ▸ he.bel) F x vs m w cargs hx hh fP he eG hc
variable{N:Nat}
variable{tm:Z U}
variable{H:Z (Nat×B)}
variable{X:Sg}
theorem Gh.back{n0:Nat}(hw:nN X)(hs:∀k,k<X.nx->gt H k=gt X.h k)(hN:X.nx<=N)(hb:aF X.nx tm)(h0:n0<=X.nx):Gh n0 tm ⟨H,N⟩ tm X:=by
 have h1:∀k,gt (Vx.cut X.nx H) k=gt X.h k:=fun k=>by rw[Eh];by_cases hk:k<X.nx;rw[if_pos hk,hs k hk];rw[if_neg hk];rcases hg:gt X.h k with _|b;rfl;exact absurd (hw k b hg).1 hk
 have h2:Gh n0 tm ⟨H,N⟩ tm ⟨Vx.cut X.nx H,X.nx⟩:=Gh.cutG (X:=⟨H,N⟩) h0 hN hb fun k b hg=>by rw[h1]at hg;exact(hw k b hg).2
 exact h2.trans (Gh.same (X:=⟨Vx.cut X.nx H,X.nx⟩) X.h fun k=>(h1 k).symm)
section
variable{T:Tb}{n:Nat}{l:Z (Nat×U)}{rs:Z ResultVar}
variable{u:U}
variable{R:U->Sg->Prop}
theorem Qm{us:Z U}(hw:nN X)(hr:jY T ⟨H,N⟩ (fr n l) rs=some us)(hu:lN us=u)(hs:∀k,k<X.nx->gt H k=gt X.h k)(hN:X.nx<=N)(hb:aP X.nx u)(hR:R u X):
  (Exit.ret=.normal\/Exit.ret=.ret)/\∃l',jY T ⟨H,N⟩ (fr n l) rs=some l'/\∃u' aS,X.nx<=aS.nx/\Gh X.nx [lN l'] ⟨H,N⟩ [u'] aS/\R u' aS :=
 ⟨.inr rfl,us,hr,u,X,zF _,by subst hu;exact Gh.back hw hs hN (by simp only[aF,and_true];exact hb) (zF _),hR⟩
variable{nF:Sg}
theorem Ql{us:Z U}(hr:jY T X (fr n l) rs=some us)(hu:lN us=u)(hN:nF.nx<=X.nx)(hR:R u X):
  (Exit.ret=.normal\/Exit.ret=.ret)/\∃l',jY T X (fr n l) rs=some l'/\∃u' aS,nF.nx<=aS.nx/\Gh nF.nx [lN l'] X [u'] aS/\R u' aS :=
 ⟨.inr rfl,us,hr,u,X,hN,by subst hu;exact Gh.refl _ _ _,hR⟩
variable{a:Tmp}
variable{t:Z ResultVar}
theorem uj(hw:nN X)(ht:rs=.tmp a::t)(h:bO n l (.tmp a)=some u)(h0:t=[])(hs:∀k,k<X.nx->gt H k=gt X.h k)(hN:X.nx<=N)(hb:aP X.nx u)(hR:R u X):
  (Exit.ret=.normal\/Exit.ret=.ret)/\∃l',jY T ⟨H,N⟩ (fr n l) rs=some l'/\∃u' aS,X.nx<=aS.nx/\Gh X.nx [lN l'] ⟨H,N⟩ [u'] aS/\R u' aS:=by subst ht;subst h0;exact Qm hw (fH h fW) rfl hs hN hb hR
theorem W7{b:Tmp}{v:U}(hw:nN X)(ht:rs=.tmp a :: .tmp b::t)(h:bO n l (.tmp a)=some u)(h':bO n l (.tmp b)=some v)(h0:t=[])(hs:∀k,k<X.nx->gt H k=gt X.h k)(hN:X.nx<=N)(hb:aP X.nx (.tup [u,v]))(hR:R (.tup [u,v]) X):
  (Exit.ret=.normal\/Exit.ret=.ret)/\∃l',jY T ⟨H,N⟩ (fr n l) rs=some l'/\∃u' aS,X.nx<=aS.nx/\Gh X.nx [lN l'] ⟨H,N⟩ [u'] aS/\R u' aS:=by subst ht;subst h0;exact Qm hw (fH h (fH h' fW)) rfl hs hN hb hR
theorem AC(ht:rs=.tmp a::t)(h:bO n l (.tmp a)=some u)(h0:t=[])(hN:nF.nx<=X.nx)(hR:R u X):
  (Exit.ret=.normal\/Exit.ret=.ret)/\∃l',jY T X (fr n l) rs=some l'/\∃u' aS,nF.nx<=aS.nx/\Gh nF.nx [lN l'] X [u'] aS/\R u' aS:=by subst ht;subst h0;exact Ql (fH h fW) rfl hN hR
theorem Dq{b:Tmp}{v:U}(ht:rs=.tmp a :: .tmp b::t)(h:bO n l (.tmp a)=some u)(h':bO n l (.tmp b)=some v)(h0:t=[])(hN:nF.nx<=X.nx)(hR:R (.tup [u,v]) X):
  (Exit.ret=.normal\/Exit.ret=.ret)/\∃l',jY T X (fr n l) rs=some l'/\∃u' aS,nF.nx<=aS.nx/\Gh nF.nx [lN l'] X [u'] aS/\R u' aS:=by subst ht;subst h0;exact Ql (fH h (fH h' fW)) rfl hN hR
end
section
variable{T:Tb}{n:Nat}{l:Z (Nat×U)}{h:Z (Nat×B)}{nx:Nat}{op:Op}
theorem oNc{k off:Nat}{x:Jp}{q:Z U}{e:O}(ho:op=.nilCheck x)(hx:bO n l x=some (.ptr k 0 off))[g:eK h k (.row q e)]:bF T ⟨h,nx⟩ (fr n l) op=some (.ptr k 0 off,⟨h,nx⟩):=by subst ho;exact BY hx (by simp only[live,g.h];rfl)
end
variable{v10:Prop}
theorem opn (h:v10:=by first
 |exact Go.Vx.oNc rfl rfl
 |exact Go.Vx.opx):v10:=h
theorem opm (h:v10:=by first
 |exact Go.Vx.oNc rfl rfl
 |exact Go.Vx.opy):v10:=h
section
variable{T:Tb}{aA r:Z Oper}{o:Oper}{n:Nat}{l:Z (Nat×U)}{X X':Sg}{u:U}
theorem RS.on{C:PG}{K:Z U->Sg->Prop}{d:Tmp}(hk:RU C T aA r (fr n ((d,u)::l)) X' K)(h:bF T X (fr n l) o.op=some (u,X'):=by exact Go.Vx.opn)(he:o.dst=some d:=by exact rfl)(hw:cA aA (fr n l) o=some true:=by exact Go.Vx.wA)(hd:Nat.blt d n=true:=by exact rfl):RU C T aA (o::r) (fr n l) X K:=RS.op hw h he hd hk
theorem RD.on{P:Uz}{aY:Z RK}{K:Z RK->Z U->Sg->Prop}{d:Tmp}(hk:RH P T aA r (fr n ((d,u)::l)) X ((1,⟨fr n l,o,u,false,false,X,X⟩)::aY) K)(h:bF T X (fr n l) o.op=some (u,X):=by exact Go.Vx.opm)(he:o.dst=some d:=by exact rfl)(hw:cA aA (fr n l) o=some true:=by exact Go.Vx.wA)(hd:Nat.blt d n=true:=by exact rfl):RH P T aA (o::r) (fr n l) X aY K:=RD.look hw h he hd hk
end
theorem goN{B:Prop}(h:B)(g:Hd B->v10:=by intro h;(repeat' first |refine Go.Vx.gs ?_ |refine Go.Vx.RS.on ?_ |refine Go.Vx.rg1 rfl ?_);exact h.h):v10:=g ⟨h⟩
theorem gnN{B:Prop}(h:B)(g:Hd B->v10:=by intro h;(repeat' first |refine Go.Vx.gs ?_ |refine Go.Vx.RS.on ?_);exact h.h):v10:=g ⟨h⟩
theorem cU{B:Prop}(h:B) (g:Hd B->v10:=by
 intro h
 repeat' first
  |(refine Go.Vx.RD.nt rfl rfl rfl ?_ rfl ?_;· first |with_reducible_and_instances assumption |exact rfl)
  |(refine Go.Vx.RD.nf rfl rfl rfl ?_ rfl ?_;· first |with_reducible_and_instances assumption |exact rfl)
  |refine Go.Vx.RD.on ?_
 exact h.h):v10:=g ⟨h⟩
variable{K:Nat}
theorem Ez(b:B)(sz:Nat){c:B}(h:BelB K c):fzB K b sz c=c:=by
 cases c with
 |row l e=>simp only[fzB];rw[yH _ _ _ h]|vec l e s st=>simp only[fzB];rw[yH _ _ _ h]
 |map es cl=>simp only[fzB,B.map.injEq,and_true];exact List.map_congr_left (g:=id) (fun e he=>by rw[LW _ _ _ (h e he).2];rfl)|>.trans (by simp)
theorem Fc{n k:Nat}(h:n<=k){b:B}(hb:BelB n b):BelB k b:=by
 cases b with
 |row l e=>exact aF.le h _ hb|vec l e s st=>exact aF.le h _ hb
 |map es cl=>exact fun e he=>⟨aP.le h _ (hb e he).1,aP.le h _ (hb e he).2⟩
variable{sz:Nat}
variable{v11:Type}
variable{e:O}
theorem Xi{n0 st:Nat}{c:v11->Z U}{xs:Z v11}{tm':Z U}(hw:nN X)(hK:X.nx<=K)(hg:gt H K=some (.bv c xs e sz st))(hs:∀k,k<X.nx->gt H k=gt X.h k)(hN:X.nx<=N)(ht:iX K (.bv c xs e sz st) sz tm=tm')(hb:aF X.nx tm')(h0:n0<=X.nx):Gh n0 tm ⟨H,N⟩ tm' X:=by have h1:Gh n0 tm ⟨H,N⟩ tm' ⟨fzH K (.bv c xs e sz st) sz H,N⟩:=Gh.fz (X:=⟨H,N⟩) K (.bv c xs e sz st) sz hg nofun ht rfl;refine h1.trans (Gh.back hw (fun k hk=>?_) hN hb h0);rw[FX,if_neg (by omega),hs k hk];rcases NW:gt X.h k with _|b;rfl;simp only[zM];rw[Ez _ _ (Fc hK (hw k b NW).2)]
instance(priority:=50){h:Z (Nat×B)}{K:Nat}{b:B}:TX h K b (ug h K b):=⟨rfl⟩
section
variable{T:Tb}{n:Nat}{l:Z (Nat×U)}{h:Z (Nat×B)}{nx nx':Nat}{op:Op}
theorem oAe{c:v11->Z U}{x y:Jp}{t xt e1 e2:O}{args:Bo Jp}{ts:Bo O}{a off s1 by_:Nat}{z:A}{ys:Z v11}{b:BQ}{q:Z U}(ho:op=.call { callee:=.builtin .append,args:=args,argTypes:=ts })(ha:args.toList=[x,y])(ht:ts.toList=[t,xt])(hx:bO n l x=some (.sl a off 0 0))(hy:bO n l y=some (.isl b (ys.map c)))[d1:eB T t (.slice e)][d2:eB T xt (.slice e2)][i:iS T e s1 by_ z][g:eK h a (.row q e1)][lc:gR c s1][hn:SuC nx nx'](hp:Nat.ble 1 s1=true)(hq:Nat.ble off q.length=true)(hz:Nat.beq z.cells.toList.length s1=true)(hr:ys.length*by_<=140737488355328/\ys.length<=140737488355328):bF T ⟨h,nx⟩ (fr n l) op=some (.vl nx 0 0 ys.length,⟨(nx,.bv c ys e s1 0)::h,nx'⟩):=by subst ho;have AT:=hn.h;subst AT;obtain⟨sz,rfl⟩:∃sz,s1=sz+1:=⟨s1-1,by have:=zY hp;omega⟩;exact rN (X:=⟨h,nx⟩) ha ht hx hy (ah c ys d1.h d2.h i.h hz (by simp only[rowOf,g.h]) hq (Ma c lc.h) hr)
end
theorem WPU.wf{C:PG}{n0:Nat}{c:Code}{tm:Z U}{X:Sg}{Q:Exit->Z U->Sg->Prop}(h:nN X->aF X.nx tm->WPU C n0 c tm X Q):WPU C n0 c tm X Q:=fun hn F x tv m w a b0 hx st hG hd ro eR=>h (hx ▸ st.h.wf) (hx ▸ st.e.bel) hn F x tv m w a b0 hx st hG hd ro eR
theorem Gh.first{m st:Nat}{l:Z U}(hw:nN X)(hK:X.nx<=K)(hN:K<N)(hg:gt H K=some (.vec l e sz st))(hs:∀k,k<X.nx->gt H k=gt X.h k)(hb:aF X.nx l):Gh X.nx [.vl K st 0 m] ⟨H,N⟩ [.vl X.nx st 0 m] ⟨(X.nx,.vec l e sz st)::X.h,X.nx+1⟩:=fun F x tv hx hr hf he=>by
 have ED:x.X.h=H:=by rw[hx]
 have KP:x.X.nx=N:=by rw[hx]
 let y:Cx:=⟨fun k=>if k=X.nx then x.Y K else x.Y k,⟨(X.nx,.vec l e sz st)::X.h,X.nx+1⟩,x.s⟩
 have hnone:∀k,X.nx<=k->gt X.h k=none:=fun k hk=>by rcases hq:gt X.h k with _|b;rfl;have:=(hw k b hq).1;omega
 have hM:Mo X.nx x y:=⟨fun k hk nL=>⟨Nat.lt_succ_of_lt hk,fun b' bV=>by
  have h1:gt y.X.h k=gt X.h k:=by show gt ((X.nx,_)::X.h) k=_;rw[aQ,if_neg (by omega)]
  rw[h1,<-hs k hk,<-ED]at bV;exact⟨b',bV,zF _,fun _=>⟨by show(if k=X.nx then _ else _)=_;rw[if_neg (by omega)],fun l e sz st h=>⟨l,h⟩⟩⟩⟩,fun _ _ _ h=>h⟩
 have If:∀k b,gt y.X.h k=some b->(k=X.nx/\b=.vec l e sz st)\/(k<X.nx/\gt X.h k=some b):=fun k b hb=>by have hb:gt ((X.nx,B.vec l e sz st)::X.h) k=some b:=hb;rw[aQ]at hb;by_cases e:X.nx=k;rw[if_pos e]at hb;cases hb;exact .inl ⟨e.symm,rfl⟩;rw[if_neg e]at hb;exact .inr ⟨(hw k b hb).1,hb⟩
 have vL:∀k,k<X.nx->y.Y k=x.Y k:=fun k hk=>by show(if k=X.nx then _ else _)=_;rw[if_neg (by omega)]
 have Sd:y.Y X.nx=x.Y K:=by show(if X.nx=X.nx then _ else _)=_;rw[if_pos rfl]
 refine⟨y,fun m w hf=>bQ.refl hf,rfl,⟨fun k b hb0=>?_,fun k k' b b' i hb bV h1 h2=>?_,hr.bd⟩,fun i b J=>?_,?_,hM.ke⟩;rcases If k b hb0 with⟨rfl,rfl⟩|⟨hk,hb⟩;refine⟨zN _,?_⟩;obtain⟨_,k1,k2,h3⟩:=hr.ok K _ (by rw[ED];exact hg);refine⟨k1,k2,?_⟩;rw[Sd];rcases h3 with h3 |⟨i,l',e1,e2,e3⟩;exact .inl h3;exact .inr ⟨i,l',e1,e2,hM.ke.E hb e3⟩;refine⟨Nat.lt_succ_of_lt hk,?_⟩;have h0:gt x.X.h k=some b:=by rw[ED,hs k hk];exact hb
 have tW:=(hw k b hb).2;obtain⟨_,h3⟩:=hr.ok k b h0;cases b with
 |row q e'=>obtain⟨k1,i,l',e1,e2,e3⟩:=h3;exact⟨k1,i,l',by rw[vL k hk];exact e1,e2,hM.ke.E tW e3⟩
 |vec q e' gS bG=>obtain⟨k1,k2,h3⟩:=h3;refine⟨k1,k2,?_⟩;rw[vL k hk];rcases h3 with h3 |⟨i,l',e1,e2,e3⟩;exact .inl h3;exact .inr ⟨i,l',e1,e2,hM.ke.E tW e3⟩
 |map es cl=>obtain⟨i,es',e1,e2,e3⟩:=h3;refine⟨i,es',by rw[vL k hk];exact e1,e2,e3.1,fun j e he=>?_⟩;obtain⟨v,q1,q2,q3,q4⟩:=e3.2 j e he;have hb2:=tW e (zX he);exact⟨v,q1,hM.ke _ _ hb2.1 q2,hM.ke _ _ hb2.2 q3,q4⟩
 rcases If k b hb with⟨rfl,rfl⟩|⟨hk,hb⟩;rcases If k' b' bV with⟨rfl,_⟩|⟨oR,bV⟩;rfl;rw[Sd]at h1;rw[vL k' oR]at h2;have:=hr.inj K k' _ _ i (by rw[ED];exact hg) (by rw[ED,hs k' oR];exact bV) h1 h2;omega;rcases If k' b' bV with⟨rfl,rfl⟩|⟨oR,bV⟩;rw[Sd]at h2;rw[vL k hk]at h1;have:=hr.inj k K _ _ i (by rw[ED,hs k hk];exact hb) (by rw[ED];exact hg) h1 h2;omega;rw[vL k hk]at h1;rw[vL k' oR]at h2;exact hr.inj k k' _ _ i (by rw[ED,hs k hk];exact hb) (by rw[ED,hs k' oR];exact bV) h1 h2;obtain⟨h1,h2⟩:=hf i b J;refine⟨h1,fun k c hc=>?_⟩;rcases If k c hc with⟨rfl,rfl⟩|⟨hk,hb⟩;rw[Sd];exact h2 K _ (by rw[ED];exact hg);rw[vL k hk];exact h2 k _ (by rw[ED,hs k hk];exact hb);obtain⟨v,vs,rfl,h1,h2⟩:=he.inv;have:=h2.nil_inv;subst this;refine aX.cons ?_ (aX.nil y);simp only[aB]at h1 ⊢;obtain⟨k1,k2,k3⟩:=h1;refine⟨k1,zN _,fun b hb=>?_⟩;rcases If _ b hb with⟨_,rfl⟩|⟨hk,_⟩;obtain⟨g1,g2⟩:=k3 _ (by rw[ED];exact hg);refine⟨g1,fun h=>?_⟩;rw[Sd];exact g2 h;omega
theorem eT.op{C:PG}{T:Tb}(hT:iK C.prog T){X X':Sg}{tm:Z U}{o:Oper}{u:U}(h:bF T X tm o.op=some (u,X')):eT C X tm o (fun u' s'=>u'=u/\s'=X'):=fun F x tv m w a next Q eW st hG hn ro eR=>by
 subst eW;exact vE (PZ h) (st.op hT o h fun y dB aI w₁ b7 e1 bG aO fT iE lA=>hn u y dB aI w₁ b7 ⟨rfl,e1⟩ bG aO fT iE lA)
theorem eT.mono{C:PG}{o:Oper}{R R':U->Sg->Prop}(h:eT C X tm o R)(hr:∀u s,R u s->R' u s):eT C X tm o R':=fun F x tv m w a next Q eW st hG hn ro eR=>h F x tv m w a next Q eW st hG (fun u y dB aI w₁ b7 hR=>hn u y dB aI w₁ b7 (hr _ _ hR)) ro eR
section
variable{C:PG}{T:Tb}{aA r:Z Oper}{o:Oper}{n:Nat}{l:Z (Nat×U)}{X:Sg}{K:Z U->Sg->Prop}{R:U->Sg->Prop}
theorem xV{d:Tmp}(he:o.dst=some d)(hs:eT C X (fr n l) o R)(hk:∀u X',R u X'->RU C T aA r (fr n ((d,u)::l)) X' K)(hw:cA aA (fr n l) o=some true:=by exact Go.Vx.wA)(hd:Nat.blt d n=true:=by exact rfl):RU C T aA (o::r) (fr n l) X K :=
 .inr (.inr (.inr (.inr ⟨hw,R,hs,fun u X' h=>by rw[he,sL (d:=some d) u hd];exact hk u X' h⟩)))
theorem RS.stepn(he:o.dst=none)(hs:eT C X (fr n l) o R)(hk:∀u X',R u X'->RU C T aA r (fr n l) X' K)(hw:cA aA (fr n l) o=some true:=by exact Go.Vx.wA):RU C T aA (o::r) (fr n l) X K :=
 .inr (.inr (.inr (.inr ⟨hw,R,hs,fun u X' h=>by rw[he];exact hk u X' h⟩)))
end
section
variable{T:Tb}{X:Sg}{n:Nat}{l:Z (Nat×U)}{v w:U}
theorem Cs(c:v11->Z U)(ys:Z v11){t xt e2:O}{by_ a st off:Nat}{z:A}{xs W:Z v11}(hd:T.und t=some (.slice e))(cX:T.und xt=some (.slice e2))(hi:T.inf e=some (sz+1,by_,z))(hz:Nat.beq z.cells.toList.length (sz+1)=true)(hc:∀x,(c x).length=sz+1)(hg:gt X.h a=some (.vec (xs.map c).flatten e (sz+1) st))(hx:xs.drop off=W)(ho:off<=xs.length)(h0:off=0\/W≠[])(hy:0<ys.length)(hw:rK X (sz+1) w=some (ys.length,(ys.map c).flatten))(hr:(W.length+ys.length)*by_<=140737488355328/\W.length+ys.length<=140737488355328):AG T X t xt (.vl a st off W.length) w=some (.vl a (st+1) 0 (W++ys).length,⟨ug X.h a (.vec ((W++ys).map c).flatten e (sz+1) (st+1)),X.nx⟩):=by
 subst hx;have b1:Nat.beq st st=true:=by simp[beq_eq]
 have b2:Nat.beq e e=true:=by simp[beq_eq]
 have b3:Nat.beq (sz+1) (sz+1)=true:=by simp[beq_eq]
 have hl:∀l:Z v11,(l.map c).flatten.length=l.length*(sz+1):=fun l=>C5 hc l;have hs:iZ (xs.map c).flatten (off*(sz+1)) ((xs.drop off).length*(sz+1))=some ((xs.drop off).map c).flatten:=by
  have e1:(xs.map c).flatten=((xs.take off).map c).flatten++((xs.drop off).map c).flatten:=by rw[<-List.flatten_append,<-List.map_append,List.take_append_drop]
  have e2:((xs.take off).map c).flatten.length=off*(sz+1):=by rw[hl,List.length_take,Nat.min_eq_left ho]
  unfold iZ;rw[if_pos (by rw[e1,zU,e2,hl];omega),e1,<-e2,List.drop_left,zW (by rw[hl];exact zF _)]
 have Ug:0<ys.length/\(off=0\/0<(xs.drop off).length)\/off=0/\(xs.drop off).length*(sz+1)=(xs.map c).flatten.length:=by
  refine .inl ⟨hy,?_⟩;rcases h0 with h0 |h0;exact .inl h0;exact .inr (by cases hq:xs.drop off with
   |nil=>exact absurd hq h0|cons=>simp)
 rw[dh,zU];simp only[AG,hd,cX,hi,hz,zC,hw,hg,b1,b2,b3,hs,hr.1,hr.2,true_and,Ug,if_true]
end
theorem sK.bp{P:Uz}{T:Tb}{n:Nat}{l:Z (Nat×U)}{t:O}{b:Nat}{z:A}{zu cs:Z U}{x:Jp}{u:U}(hd:T.und t=some (.slice e))(hi:T.inf e=some (sz,b,z))(hx:bO n l x=some u)(h1:Nat.ble (1*sz) 16777216=true)(h3:Nat.beq z.cells.toList.length sz=true)(hz:nH z.cells.toList=some zu)(hf:pT (fun i=>some (i*sz,sz)) (qV zu 1) [(0,u)]=some cs)(hk:okL cs=true)(hl:cs.length=sz)(hc:∀m,aP m u->aF m cs):sK P T (fr n l) (.buildSlice t 1 #[(0,x)]) (.isl false [cs]):=by refine .inr ⟨1,sz,cs,e,fun X=>FW hd hi (show AB n l [(0,x)]=some [(0,u)] by simp[AB,hx]) h1 rfl h3 hz hf hk,by omega,fun m hm=>hc m (hm x (by simp[Op.operands]) u (dH hx)),?_⟩;rw[show bR sz 1 cs=[cs] by simp[bR,<-hl]]
theorem jQ{k nx:Nat}{b:B}{h:Z (Nat×B)}(hk:k<nx):gt ((nx,b)::h) k=gt h k:=by rw[aQ,if_neg (by omega)]
end Go.Vx
namespace Go.Proofs
open Go Go.Rx Go.Vx Tryz
instance:TbP prog tb:=⟨tb_ok⟩
set_option maxRecDepth 20000
set_option maxHeartbeats 4000000
set_option synthInstance.maxSize 4000
set_option synthInstance.maxHeartbeats 200000
instance:uT tb 95 [.nilp,.int .i64 0] [(0,1),(1,1)]:=⟨wG pc.h g_.h rfl (by kernel_rfl)⟩
instance:uT tb 97 [.int .i64 0,.int .i64 0] [(0,1),(1,1)]:=⟨wG pb.h f_.h rfl (by kernel_rfl)⟩
instance:uT tb 99 [.nils,.int .i64 0] [(0,1),(1,1)]:=⟨wG pa.h e_.h rfl (by kernel_rfl)⟩
instance:uT tb 101 [.bool false,.int .i64 0] [(0,1),(1,1)]:=⟨wG Jy.h Rz.h rfl (by kernel_rfl)⟩
instance:uT tb 103 [.int .i64 0,.nils,.nilp,.int .i64 0,.int .i64 0,.int .i64 0,.nils,.int .i64 0,.nilp,.int .i64 0,.bool false,.int .i64 0] [(0,1),(1,1),(2,2),(4,2),(6,2),(8,2),(10,2)]:=⟨wG Jx.h lT.h rfl (by kernel_rfl)⟩
instance:uT tb 107 [.int .i64 0,.nilp] [(0,1),(1,1)]:=⟨wG Jw.h AK.h rfl (by kernel_rfl)⟩
structure dR where
 f:Int
 to:Nat
structure PN where
 kind:Int
 arcs:Z dR
 fw:I Nat
 fwA:Int
 mt:Int
 mtA:Int
 more:Z dR
 moA:Int
 cp:I Nat
 cpA:Int
 ch:BQ
 chA:Int
abbrev pt(nm:Nat->Nat)(i:Nat):U:=.ptr (nm i) 0 0
def po(nm:Nat->Nat):I Nat->U
 |none=>.nilp|some i=>pt nm i
def bX(nm:Nat->Nat)(a:dR):Z U:=[.int .i64 a.f,pt nm a.to]
def nM(nm:Nat->Nat)(x:PN):Z U:=[.i6 x.kind,.iM (bX nm) x.arcs,po nm x.fw,.i6 x.fwA,.i6 x.mt,.i6 x.mtA,.iM (bX nm) x.more,.i6 x.moA,po nm x.cp,.i6 x.cpA,.bool x.ch,.i6 x.chA]
instance{nm:Nat->Nat}:gR (bX nm) 2:=⟨fun _=>rfl⟩
theorem getP(X:Sg)(nm:Nat->Nat)(o:I Nat)(a b:Int):aV prog 71 [.agg [po nm o,.i6 a],.i6 b] X (fun u X'=>u=.tup [po nm (cond (a != b) none o),.bool (!(a != b))]/\X'=X):=by
 refine aV.wf fun hw hb=>?_;simp only[aF,aP,and_true,true_and]at hb;obtain⟨h,nx⟩:=X
 haveI:SuC nx (nx+1):=⟨rfl⟩
 rcases o with _ |i
 all_goals
  refine eO 14 w8 ?_;refine go ?_;refine dS rfl (fun h1=>?_) (fun h1=>?_);refine go ?_;exact W7 hw rfl rfl rfl rfl (fun k hk=>jQ hk) (Nat.le_succ _) (by simp[aP,aF]) ⟨by rw[h1];rfl,rfl⟩;refine go ?_;exact W7 hw rfl rfl rfl rfl (fun k hk=>jQ hk) (Nat.le_succ _) (by simp only[aP,aF,and_true];exact hb) ⟨by rw[h1];rfl,rfl⟩
theorem Ux(X:Sg)(v a b:Int):aV prog 108 [.agg [.i6 v,.i6 a],.i6 b] X (fun u X'=>u=.tup [.i6 (cond (a != b) 0 v),.bool (!(a != b))]/\X'=X):=by
 refine aV.wf fun hw hb=>?_;obtain⟨h,nx⟩:=X
 haveI:SuC nx (nx+1):=⟨rfl⟩
 refine eO 14 I8 ?_;refine go ?_;refine dS rfl (fun h1=>?_) (fun h1=>?_);refine go ?_;exact W7 hw rfl rfl rfl rfl (fun k hk=>jQ hk) (Nat.le_succ _) (by simp[aP,aF]) ⟨by rw[h1];rfl,rfl⟩;refine go ?_;exact W7 hw rfl rfl rfl rfl (fun k hk=>jQ hk) (Nat.le_succ _) (by simp[aP,aF]) ⟨by rw[h1];rfl,rfl⟩
theorem Az(X:Sg)(v:BQ)(a b:Int):aV prog 69 [.agg [.bool v,.i6 a],.i6 b] X (fun u X'=>u=.tup [.bool (cond (a != b) false v),.bool (!(a != b))]/\X'=X):=by
 refine aV.wf fun hw hb=>?_;obtain⟨h,nx⟩:=X
 haveI:SuC nx (nx+1):=⟨rfl⟩
 refine eO 14 OE ?_;refine go ?_;refine dS rfl (fun h1=>?_) (fun h1=>?_);refine go ?_;exact W7 hw rfl rfl rfl rfl (fun k hk=>jQ hk) (Nat.le_succ _) (by simp[aP,aF]) ⟨by rw[h1];rfl,rfl⟩;refine go ?_;exact W7 hw rfl rfl rfl rfl (fun k hk=>jQ hk) (Nat.le_succ _) (by simp[aP,aF]) ⟨by rw[h1];rfl,rfl⟩
theorem OB(X:Sg)(nm:Nat->Nat)(v:Z dR)(a b:Int):aV prog 104 [.agg [.iM (bX nm) v,.i6 a],.i6 b] X (fun u X'=>u=.tup [.iM (bX nm) (cond (a != b) [] v),.bool (!(a != b))]/\X'=X):=by
 refine aV.wf fun hw hb=>?_;simp only[aF,aP,and_true,true_and]at hb;obtain⟨h,nx⟩:=X
 haveI:SuC nx (nx+1):=⟨rfl⟩
 refine eO 14 wE ?_;refine go ?_;refine dS rfl (fun h1=>?_) (fun h1=>?_);refine go ?_;refine⟨.inr rfl,_,fH rfl (fH rfl fW),.tup [.isl false [],.bool false],⟨h,nx⟩,zF _,?_,by rw[h1];rfl,rfl⟩;exact(Gh.wk (.cons (.tup (.cons (.nil false) (.cons (.refl _) .nil))) .nil)).trans (Gh.back hw (fun k hk=>jQ hk) (Nat.le_succ _) (by simp[aF,aP,jO]) (zF _));refine go ?_;exact W7 hw rfl rfl rfl rfl (fun k hk=>jQ hk) (Nat.le_succ _) (by simp only[aP,aF,and_true];exact hb) ⟨by rw[h1];rfl,rfl⟩
variable{nm:Nat->Nat}
theorem WA{o:I Nat}{a b:Int}{t:BQ}{v:U}(ht:(a != b)=t)(hv:po nm (cond t none o)=v)(X:Sg):aV prog 71 [.agg [po nm o,.i6 a],.i6 b] X (fun u X'=>u=.tup [v,.bool (!t)]/\X'=X):=by subst ht;subst hv;exact getP X nm o a b
structure PP where
 H:eD
 N:Z PN
 roots:Z Nat
 size:Int
 gen:Int
def dL(nm:Nat->Nat)(i:Nat):Z U:=[pt nm i]
instance{nm:Nat->Nat}:gR (dL nm) 1:=⟨fun _=>rfl⟩
def qN(kr st:Nat)(P:PP):Z U:=[.iM m4 P.H.Types,.iM pA P.H.Feats,.vl kr st 0 P.roots.length,.i6 P.size,.i6 P.gen]
def DF(n:Nat):I Nat->Prop
 |none=>True|some i=>i<n
structure jK(n:Nat)(x:PN):Prop where
 arcs:∀a∈x.arcs,a.to<n
 fw:DF n x.fw
 more:∀a∈x.more,a.to<n
 cp:DF n x.cp
structure PH(kp kr st:Nat)(nm:Nat->Nat)(P:PP)(h:Z (Nat×B)):Prop where
 pool:gt h kp=some (.row (qN kr st P) 83)
 roots:gt h kr=some (.vec (P.roots.map (dL nm)).flatten 92 1 st)
 node:∀i x,P.N[i]? = some x->gt h (nm i)=some (.row (nM nm x) 103)
 inj:∀i j,i<P.N.length->j<P.N.length->nm i=nm j->i=j
 wf:∀x∈P.N,jK P.N.length x
 rt:∀r∈P.roots,r<P.N.length
def rL(N:Z PN)(g:Int):Nat->Nat->I Nat
 |0,_=>none|m+1,p=>a8 N[p]? fun x=>cond (x.fwA != g) (some p) (a8 x.fw fun q=>rL N g m q)
section
variable{kp kr st:Nat}{nm:Nat->Nat}{P:PP}{h:Z (Nat×B)}{nx:Nat}
theorem PH.gp(p:PH kp kr st nm P h):eK h kp (.row [.iM m4 P.H.Types,.iM pA P.H.Feats,.vl kr st 0 P.roots.length,.i6 P.size,.i6 P.gen] 83):=⟨p.pool⟩
theorem PH.gn(p:PH kp kr st nm P h){i:Nat}{x:PN}(hx:P.N[i]? = some x):eK h (nm i) (.row [.i6 x.kind,.iM (bX nm) x.arcs,po nm x.fw,.i6 x.fwA,.i6 x.mt,.i6 x.mtA,.iM (bX nm) x.more,.i6 x.moA,po nm x.cp,.i6 x.cpA,.bool x.ch,.i6 x.chA] 103):=⟨p.node i x hx⟩
theorem JS(p:PH kp kr st nm P h)(n:Nat){i r:Nat}(J:rL P.N P.gen n i=some r):aV prog 66 [.ptr kp 0 0,pt nm i] ⟨h,nx⟩ (fun u X'=>u=pt nm r/\X'=⟨h,nx⟩):=by
 haveI:=p.gp
 refine eO 23 wB ?_;refine goN ?_;refine gL (fun m tm X=>∃i,rL P.N P.gen m i=some r/\tm=fr 23 [(0,.ptr kp 0 0),(1,pt nm i)]/\X=⟨h,nx⟩) (fun _ _=>False) n ⟨i,J,rfl,rfl⟩ (fun _ _ h=>h.elim) ?_ (zF _);rintro(_ |m) _ _ ⟨i,J,rfl,rfl⟩;cases J;obtain⟨x,hx,J⟩:=aL J
 haveI:=p.gn hx
 refine goN ?_;apply aR;refine goN ?_;refine dE [] ?_;refine cU ?_;cases hb:x.fwA != P.gen with
 |true=>rw[hb]at J;obtain rfl:=sI J;refine dV rfl (WA hb rfl) w8 ?_;refine cU ?_;refine bN ⟨by kernel_rfl,trivial,?_⟩;refine goN ?_;refine dS rfl (fun h1=>?_) (fun h1=>by cases h1);refine goN ?_;exact AC rfl rfl rfl (zF _) ⟨rfl,rfl⟩
 |false=>rw[hb]at J;obtain⟨q,hq,J⟩:=aL J;refine dV rfl (WA (v:=pt nm q) hb (by rw[hq];rfl)) w8 ?_;refine cU ?_;refine bN ⟨by kernel_rfl,trivial,?_⟩;refine goN ?_;refine dS rfl (fun h1=>by cases h1) (fun h1=>?_);refine goN ?_;exact⟨m,_,_,zN _,⟨q,J,rfl,rfl⟩,zF _,Gh.sub (by((repeat refine⟨rfl,?_⟩);exact trivial))⟩
end
theorem Fq{n:Nat}(l:Z dR)(hl:∀a∈l,nm a.to<n):jO n (l.map (bX nm)):=by rw[Fs];intro c hc;obtain⟨a,ha,rfl⟩:=List.mem_map.1 hc;simp only[bX,pt,aF,aP,and_true,true_and];exact hl a ha
theorem dr(h:Z (Nat×B))(nx:Nat)(nm:Nat->Nat)(l:Z dR)(hl:l.length<=1000000):aV prog 105 [.iM (bX nm) l] ⟨h,nx⟩ (fun u X'=>u=.vl nx 0 0 l.length/\X'=⟨(nx,.bv (bX nm) l 107 2 0)::h,nx+1⟩):=by
 refine aV.wf fun hw hb=>?_
 haveI:SuC nx (nx+1):=⟨rfl⟩
 refine kR 8 BD ?_;refine goN ?_;refine RS.nilq rfl rfl (by exact eB.h) rfl rfl rfl rfl (fun z hz=>?_);refine goN ?_;refine dS rfl (fun h1=>?_) (fun h1=>?_);have:l=[]:=by have:=hz h1;simpa using this
 subst this;refine goN ?_;exact⟨.inr rfl,_,fH rfl fW,.vl nx 0 0 0,⟨(nx,.vec [] 107 2 0)::h,nx+1⟩,Nat.le_succ _,Gh.nilvec (X:=⟨h,nx⟩) (tm:=[.nils]) 0 107 2 (by decide) (zF _) rfl,rfl,rfl⟩;refine goN ?_
 haveI:SuC (nx+1) (nx+2):=⟨rfl⟩
 refine cP ?_;refine goN ?_;refine RS.w rfl (oAe (c:=bX nm) (ys:=l) rfl rfl rfl rfl rfl rfl rfl rfl ⟨by omega,by omega⟩) ?_;refine goN ?_;refine⟨.inr rfl,_,fH rfl fW,.vl nx 0 0 l.length,_,?_,Gh.first (X:=⟨h,nx⟩) (K:=nx+1) (N:=nx+2) hw (Nat.le_succ _) (zN _) (by simp[aQ]) (fun k hk=>?_) ?_,rfl,rfl⟩;exact Nat.le_succ _;have hk:k<nx:=hk;rw[aQ,if_neg (by omega),aQ,if_neg (by omega)];simp only[aF,aP,and_true]at hb;rw[AI];intro u hu;obtain⟨c,hc,hu⟩:=List.mem_flatten.1 hu;exact(AI _ _).1 ((Fs _ _).1 hb c hc) u hu
def gE(g:Int)(x:PN):Int:=cond (x.mtA != g) x.kind x.mt
def g8(g:Int)(x:PN):Z dR:=cond (x.moA != g) [] x.more
def bW(g:Int)(x:PN):Z dR:=x.arcs++g8 g x
section
variable{kp kr st:Nat}{nm:Nat->Nat}{P:PP}{h:Z (Nat×B)}{nx:Nat}
variable{i:Nat}
variable{x:PN}
theorem Mf(p:PH kp kr st nm P h)(hx:P.N[i]? = some x):aV prog 70 [.ptr kp 0 0,pt nm i] ⟨h,nx⟩ (fun u X'=>u=.i6 (gE P.gen x)/\X'=⟨h,nx⟩):=by
 haveI:=p.gp
 haveI:=p.gn hx
 refine eO 25 w9 ?_;refine goN ?_;refine dE [] ?_;refine cU ?_;refine dV rfl (fun s=>Ux s x.mt x.mtA P.gen) I8 ?_;refine cU ?_;refine bN ⟨by kernel_rfl,trivial,?_⟩;refine goN ?_;refine dS rfl (fun h1=>?_) (fun h1=>?_);refine goN ?_;have h2:(x.mtA != P.gen)=false:=by simpa using h1
 exact AC rfl rfl rfl (zF _) ⟨by rw[gE,h2];rfl,rfl⟩;refine goN ?_;have h2:(x.mtA != P.gen)=true:=by simpa using h1
 exact AC rfl rfl rfl (zF _) ⟨by rw[gE,h2];rfl,rfl⟩
theorem PH.lt(p:PH kp kr st nm P h)(hw:nN ⟨h,nx⟩)(hi:i<P.N.length):nm i<nx:=(hw _ _ (p.node i _ (List.getElem?_eq_getElem hi))).1
theorem PH.arcsLt(p:PH kp kr st nm P h)(hw:nN ⟨h,nx⟩)(hx:P.N[i]? = some x)(g:Int):∀a∈bW g x,nm a.to<nx:=fun a ha=>by
 have ye:=p.wf x (zX hx);rcases yD.1 ha with ha |ha;exact p.lt hw (ye.arcs a ha);unfold g8 at ha;rcases hb:x.moA != g with _|_;rw[hb]at ha;exact p.lt hw (ye.more a ha);rw[hb]at ha;cases ha
theorem ae(p:PH kp kr st nm P h)(hx:P.N[i]? = some x)(hl:(bW P.gen x).length<=1000000):aV prog 72 [.ptr kp 0 0,pt nm i] ⟨h,nx⟩ (fun u X'=>u=.iM (bX nm) (bW P.gen x)/\X'=⟨h,nx⟩):=by
 refine aV.wf fun hw _=>?_;have HK:=Fq (nm:=nm) (n:=nx) _ (p.arcsLt hw hx P.gen);rw[bW,zU]at hl
 haveI:=p.gp
 haveI:=p.gn hx
 refine eO 26 D7 ?_;refine goN ?_;refine dE [] ?_;refine cU ?_;refine dV rfl (fun s=>OB s nm x.more x.moA P.gen) wE ?_;refine cU ?_;refine bN ⟨by kernel_rfl,trivial,?_⟩;refine goN ?_;refine lK rfl (g9 rfl BD rfl).2 (dr h nx nm x.arcs (by omega)) rfl rfl ?_;rintro _ _ ⟨rfl,rfl⟩;refine goN ?_;refine RS.w rfl (oAq (c:=bX nm) (xs:=x.arcs) (ys:=g8 P.gen x) rfl rfl rfl rfl rfl rfl rfl rfl ⟨by omega,by omega⟩) ?_;refine goN ?_;refine⟨.inr rfl,_,fH rfl fW,_,⟨h,nx⟩,zF _,Xi (c:=bX nm) (xs:=bW P.gen x) (e:=107) (sz:=2) (K:=nx) (st:=1) hw (zF _) (by simp[aQ,bW]) (fun k hk=>jQ hk) (Nat.le_succ _) (tm':=[.iM (bX nm) (bW P.gen x)]) ?_ (by simp only[aF,aP,and_true];exact HK) (zF _),rfl,rfl⟩;exact congrArg (fun u=>[u]) (LN (c:=bX nm) (sz:=2) (fun _=>rfl) (bW P.gen x) nx 2 107 1)
end
def y3{v11:Type}(q:v11->BQ)(l:Z v11):Int:=match l.findIdx? q with
 |some i=>(i:Int)|none=>-1
theorem z5f{X:Sg}{l:Z dR}{g:FuncId}{fn:Func}{cap:Z U}{q:dR->BQ}(Aj:tb.fn g=some fn)(hb:fn.body.isSome=true)(hl:l.length<=1000000)(hg:∀a∈l,aV prog g (.agg (bX nm a)::cap) X (fun u X'=>u=.bool (q a)/\X'=X)):
  aV prog 102 [.iM (bX nm) l,.fn (.func g) [] cap] X (fun u X'=>u=.i6 (y3 q l)/\X'=X):=by
 refine eO 19 I9 ?_;refine goN ?_;refine gL (fun m tm X'=>∃i:Nat,m=l.length-i/\i<=l.length/\(∀(j:Nat)(a:dR),j<i->l[j]? = some a->q a=false)/\tm=fr 19 [(0,.iM (bX nm) l),(1,.fn (.func g) [] cap),(7,.i6 l.length),(8,.i6 i)]/\X'=X) (fun tm X'=>y3 q l= -1/\tm=fr 19 []/\X'=X) (l.length-0) ⟨0,rfl,Nat.zero_le _,fun j a hj=>by omega,rfl,rfl⟩ ?_ ?_ (zF _);rintro _ _ ⟨h1,rfl,rfl⟩;refine goN ?_;exact AC rfl rfl rfl (zF _) ⟨by rw[h1],rfl⟩;rintro m _ _ ⟨i,rfl,hi,fF,rfl,rfl⟩;refine goN ?_;refine dS rfl (fun h1=>?_) (fun h1=>?_)
 ·have lV:i<l.length:=by simpa using h1
  obtain⟨a,ha⟩:∃a,l[i]? = some a:=⟨l[i],List.getElem?_eq_getElem lV⟩;have lH:aC l (i:Int)=some a:=by rw[aC,if_pos ⟨by omega,by omega⟩];simpa using ha
  refine goN ?_;apply aR;refine goN ?_;refine aW lH ?_;refine goN ?_;refine lK rfl (FY rfl rfl Aj hb rfl (by simp)) (hg a (zX ha)) rfl rfl ?_;rintro _ _ ⟨rfl,rfl⟩;refine goN ?_;refine dS rfl (fun h2=>?_) (fun h2=>?_);refine goN ?_;refine AC rfl rfl rfl (zF _) ⟨?_,rfl⟩;have:l.findIdx? q=some i:=by rw[List.findIdx?_eq_some_iff_getElem];refine⟨lV,?_,fun j hj=>?_⟩;rw[List.getElem?_eq_getElem lV]at ha;cases ha;exact h2;have:=fF j _ hj (List.getElem?_eq_getElem (by omega));simp[this]
  rw[y3,this]
  ·refine goN ?_;have kN:IntKind.i64.wrap ((i:Int)+1)=((i+1:Nat):Int):=by rw[oA (by omega) (by omega)];rfl
   refine⟨l.length-(i+1),_,_,by omega,⟨i+1,rfl,lV,fun j b hj hb=>?_,rfl,rfl⟩,zF _,Gh.sub ?_⟩;rcases Nat.lt_succ_iff_lt_or_eq.1 hj with hj |rfl;exact fF j b hj hb;rw[ha]at hb;cases hb;exact h2
   ·rw[<-kN];(repeat refine⟨rfl,?_⟩);exact trivial
 refine goN ?_;refine⟨_,_,⟨?_,rfl,rfl⟩,zF _,Gh.sub trivial⟩;have lV:i=l.length:=by have:¬ (i:Int)<l.length:=(by simpa using h1);omega
 have:l.findIdx? q=none:=by rw[List.findIdx?_eq_none_iff];intro a ha;obtain⟨j,hj⟩:=List.getElem?_of_mem ha;exact fF j a (by rw[lV];exact(zG.1 hj).1) hj
 rw[y3,this]
theorem z8e{h:Z (Nat×B)}{nx K:Nat}{y:dR}(hg:gt h K=some (.row (bX nm y) 107))(a:dR):aV prog 103 (.agg (bX nm a)::[.ptr K 0 0]) ⟨h,nx⟩ (fun u X'=>u=.bool (a.f==y.f)/\X'=⟨h,nx⟩):=by
 refine aV.wf fun hw _=>?_;have hK:K<nx:=(hw _ _ hg).1
 haveI:SuC nx (nx+1):=⟨rfl⟩
 haveI:eK ((nx,.row (bX nm a) 107)::h) K (.row [.i6 y.f,pt nm y.to] 107):=⟨by rw[jQ hK];exact hg⟩
 refine eO 9 TI ?_;refine goN ?_;exact uj hw rfl rfl rfl (fun k hk=>jQ hk) (Nat.le_succ _) (by simp[aP]) ⟨rfl,rfl⟩
end Go.Proofs
namespace Go.Proofs
open Go Go.Rx Go.Vx Tryz
set_option maxRecDepth 20000
set_option maxHeartbeats 4000000
set_option synthInstance.maxSize 4000
set_option synthInstance.maxHeartbeats 200000
def Pr(p1:Z Int)(z5:Int):I ((Z Int)):=
 a8 (v8 p1 0 z5) fun l6=>some l6
def XM(p1:Z Int):Nat->Int->I ((Z Int))
 |0,_=>none|m1+1,z4=>a8 (cond (decide (z4>0)) (a8 (aC p1 (IntKind.i64.wrap (z4-1))) fun sC=>some (sC==0)) (some false)) fun b13=>cond b13 ((XM p1 m1) (IntKind.i64.wrap (z4-1))) (Pr p1 z4)
def zp(n:Nat)(p1:Z Int):I ((Z Int)):=
 XM p1 n (p1.length:Int)
theorem qmx(n:Nat)(p1:Z Int)(r:(Z Int))(J:zp n p1=some r):dJ prog 111 [.isl false (p1.map (cI .u64))] (.isl false (r.map (cI .u64))):=by unfold zp at J;refine kR 21 TE ?_;refine go ?_;refine gL (fun m tm X=>∃z4,XM p1 m z4=some r/\tm=fr 21 [(0,.iM (cI .u64) p1),(3,.i6 z4)]/\X=⟨[],0⟩) (fun tm X=>∃z5,Pr p1 z5=some r/\tm=fr 21 [(0,.iM (cI .u64) p1),(3,.i6 z5)]/\X=⟨[],0⟩) n ⟨(p1.length:Int),J,rfl,rfl⟩ ?_ ?_;rintro _ _ ⟨z5,J,rfl,rfl⟩;unfold Pr at J;obtain⟨l6,h7,J⟩:=aL J;obtain⟨h8,h9⟩:=Yr (cI .u64) .i64 h7;refine go ?_;refine bT (u:=.iM (cI .u64) l6) rfl (JW rfl uC (L5 rfl) uC (Lg (cI .u64) fM.h (bZ kL.h) (uE .u64) h8 h9)) ?_;exact gx J;rintro(_|m1) _ _ ⟨z4,J,rfl,rfl⟩;cases J;unfold XM at J;obtain⟨b13,iW,J⟩:=aL J;refine gn ?_;refine fK (fun tm X=>tm=fr 21 [(0,.iM (cI .u64) p1),(3,.i6 z4),(15,.bool b13)]/\X=⟨[],0⟩) ?_ ?_;rintro _ _ ⟨rfl,rfl⟩;refine gF J ?_ ?_<;>intro kQ J;refine go ?_;apply aR;refine go ?_;exact lC ⟨_,J,rfl,rfl⟩;refine go ?_;exact xC ⟨z4,J,rfl,rfl⟩;refine go ?_;rcases gB iW with⟨iR,iW⟩|⟨iR,iW⟩;obtain⟨sC,iH,iW⟩:=aL iW;obtain rfl:=sI iW;refine go ?_;refine aW iH ?_;refine go ?_;exact xC ⟨rfl,rfl⟩;exact gy iW
def Ou(p1:Z Int)(p2:Z Int)(n:Nat)(cZ:Z Int):I ((Z Int)):=
 aG ((if(p2.length:Int)<(p1.length:Int)then(p2.length:Int)else(p1.length:Int)).toNat=cZ.length) (
 a8 (zp n cZ) fun lM=>some lM)
def zq(p1:Z Int)(p2:Z Int)(n:Nat):Nat->Int->(Z Int)->I ((Z Int))
 |0,_,_=>none|m1+1,z9,kX=>
  cond (decide (z9<(((if(p2.length:Int)<(p1.length:Int)then(p2.length:Int)else(p1.length:Int)).toNat:Nat):Int))) (a8 (aC p1 z9) fun jM=>
   a8 (aC p2 z9) fun DM=>
   a8 (nR kX 0 ((if(p2.length:Int)<(p1.length:Int)then(p2.length:Int)else(p1.length:Int)).toNat) z9) fun A6=>(zq p1 p2 n m1) (IntKind.i64.wrap (z9+1)) (kX.set z9.toNat (FK .u64 jM DM))) (Ou p1 p2 n kX)
def Nj(n:Nat)(p1:Z Int)(p2:Z Int):I ((Z Int)):=
 aG (0<=(if(p2.length:Int)<(p1.length:Int)then(p2.length:Int)else(p1.length:Int))/\8*(if(p2.length:Int)<(p1.length:Int)then(p2.length:Int)else(p1.length:Int)).toNat<=281474976710656/\(if(p2.length:Int)<(p1.length:Int)then(p2.length:Int)else(p1.length:Int))<=281474976710656) (
 zq p1 p2 n n 0 (List.replicate (if(p2.length:Int)<(p1.length:Int)then(p2.length:Int)else(p1.length:Int)).toNat 0))
theorem qvj(n:Nat)(p1:Z Int)(p2:Z Int)(r:(Z Int))(J:Nj n p1 p2=some r):dJ prog 78 [.isl false (p1.map (cI .u64)),.isl false (p2.map (cI .u64))] (.isl false (r.map (cI .u64))):=by unfold Nj at J;refine eO 33 Vk ?_;obtain⟨h3,J⟩:=cQ J;refine go ?_;refine bT (u:=.i6 (if(p2.length:Int)<(p1.length:Int)then(p2.length:Int)else(p1.length:Int))) rfl (Y3 rfl rfl rfl rfl rfl rfl rfl) (bT (u:=.sl 0 0 ((if(p2.length:Int)<(p1.length:Int)then(p2.length:Int)else(p1.length:Int)).toNat) ((if(p2.length:Int)<(p1.length:Int)then(p2.length:Int)else(p1.length:Int)).toNat)) (X':=⟨[(0,.row (List.map (cI .u64) (List.replicate (if(p2.length:Int)<(p1.length:Int)then(p2.length:Int)else(p1.length:Int)).toNat 0)).flatten 213)],1⟩) rfl (ba (cI .u64) 0 rfl rfl fM.h kL.h rfl rfl rfl rfl h3) ?_);refine go ?_;refine bT rfl (JK rfl rfl rfl (z5j fM.h rfl)) ?_;refine go ?_;refine gL (fun m tm X=>∃z9 kX,zq p1 p2 n m z9 kX=some r/\tm=fr 33 [(0,.iM (cI .u64) p1),(1,.iM (cI .u64) p2),(5,.sl 0 0 ((if(p2.length:Int)<(p1.length:Int)then(p2.length:Int)else(p1.length:Int)).toNat) ((if(p2.length:Int)<(p1.length:Int)then(p2.length:Int)else(p1.length:Int)).toNat)),(14,.i6 (((if(p2.length:Int)<(p1.length:Int)then(p2.length:Int)else(p1.length:Int)).toNat:Nat):Int)),(15,.i6 z9)]/\X=⟨[(0,.row (kX.map (cI .u64)).flatten 213)],1⟩) (fun tm X=>∃cZ,Ou p1 p2 n cZ=some r/\tm=fr 33 [(5,.sl 0 0 ((if(p2.length:Int)<(p1.length:Int)then(p2.length:Int)else(p1.length:Int)).toNat) ((if(p2.length:Int)<(p1.length:Int)then(p2.length:Int)else(p1.length:Int)).toNat))]/\X=⟨[(0,.row (cZ.map (cI .u64)).flatten 213)],1⟩) n ⟨0,(List.replicate (if(p2.length:Int)<(p1.length:Int)then(p2.length:Int)else(p1.length:Int)).toNat 0),J,rfl,rfl⟩ ?_ ?_;rintro _ _ ⟨cZ,J,rfl,rfl⟩;unfold Ou at J;obtain⟨iH,J⟩:=cQ J;refine gn ?_;refine dY (tm':=fr 33 [(5,.iM (cI .u64) cZ)]) (X':=⟨[],1⟩) (Gh.trans (Gh.sub (l':=[(5,.sl 0 0 ((if(p2.length:Int)<(p1.length:Int)then(p2.length:Int)else(p1.length:Int)).toNat) ((if(p2.length:Int)<(p1.length:Int)then(p2.length:Int)else(p1.length:Int)).toNat))]) ⟨rfl,trivial⟩) (Gh.fzS (l':=[(5,.iM (cI .u64) cZ)]) (h':=[]) 0 (.row (cZ.map (cI .u64)).flatten 213) 1 rfl (by simp) (by simp only[fzS,lN,M8,G0,LV,Q6,Ej,Ev,Mh,Mi,Mj,Ew,LU,Ln,Ek,Ei,Dt,LM,Xp (uE .u64) iH]) (by simp only[fzH,fzB,ug,Nat.beq,zC,zD,lN,M8,G0,LV,Q6,Ej,Ev,Mh,Mi,Mj,Ew,LU,Ln,Ek,Ei,Dt,LM,Xp (uE .u64) iH]))) NZ ?_;obtain⟨lM,iW,J⟩:=aL J;refine go ?_;refine aK rfl (pC (qmx n cZ lM iW) _) TE ?_;exact gx J;rintro(_|m1) _ _ ⟨z9,kX,J,rfl,rfl⟩;cases J;unfold zq at J;refine gF J ?_ ?_<;>intro kQ J;refine go ?_;apply aR;obtain⟨jM,iV,DM,jU,A6,tY,J⟩:=pR J;refine go ?_;refine dE [] ?_;refine gd ?_;refine cY iV ?_;refine gd ?_;refine cY jU ?_;refine gd ?_;refine bM rfl (wX rfl rfl (bj _ _ _) rfl) (bM rfl (fA rfl rfl (FQ fM.h (bZ kL.h) rfl tY)) (Ip (u:=.junk) (X':=⟨[(0,.row (List.map (cI .u64) (kX.set z9.toNat (FK .u64 jM DM))).flatten 213)],1⟩) rfl (uf (cI .u64) (bZ kL.h) (uE .u64) rfl rfl rfl rfl rfl rfl tY rfl) rfl ?_));refine bN ⟨by kernel_rfl,trivial,?_⟩;refine go ?_;exact lC ⟨_,(kX.set z9.toNat (FK .u64 jM DM)),J,rfl,rfl⟩;refine go ?_;exact xC ⟨kX,J,rfl,rfl⟩
def oo: I (Int):=
 some (-1)
def Hj(p1:Z mV)(c2:Z Int)(f1:mV->(Z Int)->I (BQ)):Nat->Int->I (Int)
 |0,_=>none|m1+1,z6=>cond (decide (z6<(p1.length:Int))) (a8 (aC p1 z6) fun x8=>a8 (f1 x8 c2) fun v6=>cond v6 (some z6) ((Hj p1 c2 f1 m1) (IntKind.i64.wrap (z6+1)))) (oo)
def kz(f1:mV->(Z Int)->I (BQ))(n:Nat)(p1:Z mV)(c2:Z Int):I (Int):=
 Hj p1 c2 f1 n 0
theorem q9f(f1:mV->(Z Int)->I (BQ))(hf1:∀(a0:mV)(a1:Z Int)(r:BQ),f1 a0 a1=some r->aV prog 80 [.agg (m4 a0),.iptr [.isl false (a1.map (cI .u64))]] ⟨[],0⟩ (fun u _=>u=.bool r/\aP 0 u))(n:Nat)(p1:Z mV)(c2:Z Int)(r:Int)(J:kz f1 n p1 c2=some r):dJ prog 79 [.isl false (p1.map m4),.fn (.func 80) [] [.iptr [.isl false (c2.map (cI .u64))]]] (.int .i64 r):=by unfold kz at J;have x?:∀(a0:mV)(a1:Z Int)(r:BQ),f1 a0 a1=some r->∀X,aV prog 80 [.agg (m4 a0),.iptr [.iM (cI .u64) a1]] X (fun u X'=>u=.bool r/\X'=X):=fun a0 a1 r h X=>aV.pure1C (hf1 a0 a1 r h) X;refine eO 19 Vj ?_;refine go ?_;refine gL (fun m tm X=>∃z6,Hj p1 c2 f1 m z6=some r/\tm=fr 19 [(0,.iM m4 p1),(1,.fn (.func 80) [] [.iptr [.iM (cI .u64) c2]]),(7,.i6 (p1.length:Int)),(8,.i6 z6)]/\X=⟨[],0⟩) (fun tm X=>oo=some r/\tm=fr 19 []/\X=⟨[],0⟩) n ⟨0,J,rfl,rfl⟩ ?_ ?_;rintro _ _ ⟨J,rfl,rfl⟩;unfold oo at J;exact gx J;rintro(_|m1) _ _ ⟨z6,J,rfl,rfl⟩;cases J;unfold Hj at J;refine gF J ?_ ?_<;>intro h7 J;refine go ?_;apply aR;obtain⟨x8,h9,v6,mF,J⟩:=cB J;refine go ?_;refine aW h9 ?_;refine go ?_;refine RS.call (u:=.bool v6) (args:=[.agg (m4 x8),.iptr [.iM (cI .u64) c2]]) rfl (FY rfl rfl Vi rfl rfl (rfl)) (x? x8 c2 v6 mF _) rfl rfl ?_;refine gF J ?_ ?_<;>intro iH J;exact gx J;refine go ?_;exact lC ⟨_,J,rfl,rfl⟩;refine go ?_;exact xC ⟨J,rfl,rfl⟩
def ig(n:Nat)(p1:Z Int)(p2:Int):I (Int):=
 cond (decide (p2<(p1.length:Int))) (a8 (aC p1 p2) fun x4=>some x4) (some 0)
theorem qrd(n:Nat)(p1:Z Int)(p2:Int)(r:Int)(J:ig n p1 p2=some r):dJ prog 153 [.isl false (p1.map (cI .u64)),.int .i64 p2] (.int .u64 r):=by unfold ig at J;refine eO 13 T0 ?_;refine gF J ?_ ?_<;>intro h3 J;obtain⟨x4,h5,J⟩:=aL J;refine go ?_;refine aW h5 ?_;exact gx J;exact gx J
def ol: I (BQ):=
 some true
def jh(p1:Z Int)(p2:Z Int)(n:Nat):Nat->Int->I (BQ)
 |0,_=>none|m1+1,z7=>cond (decide (z7<(p1.length:Int))) (a8 (aC p1 z7) fun x9=>a8 (ig n p2 z7) fun rJ=>cond ((Q8 .u64 x9 rJ) != 0) (some false) ((jh p1 p2 n m1) (IntKind.i64.wrap (z7+1)))) (ol)
def Gg(n:Nat)(p1:Z Int)(p2:Z Int):I (BQ):=
 jh p1 p2 n n 0
theorem qfr(n:Nat)(p1:Z Int)(p2:Z Int)(r:BQ)(J:Gg n p1 p2=some r):dJ prog 112 [.isl false (p1.map (cI .u64)),.isl false (p2.map (cI .u64))] (.bool r):=by unfold Gg at J;refine eO 21 I7 ?_;refine go ?_;refine gL (fun m tm X=>∃z7,jh p1 p2 n m z7=some r/\tm=fr 21 [(1,.iM (cI .u64) p2),(7,.iM (cI .u64) p1),(8,.i6 (p1.length:Int)),(9,.i6 z7)]/\X=⟨[],0⟩) (fun tm X=>ol=some r/\tm=fr 21 []/\X=⟨[],0⟩) n ⟨0,J,rfl,rfl⟩ ?_ ?_;rintro _ _ ⟨J,rfl,rfl⟩;unfold ol at J;exact gx J;rintro(_|m1) _ _ ⟨z7,J,rfl,rfl⟩;cases J;unfold jh at J;refine gF J ?_ ?_<;>intro h8 J;refine go ?_;apply aR;obtain⟨x9,iR,J⟩:=aL J;refine go ?_;refine aW iR ?_;obtain⟨rJ,iH,J⟩:=aL J;refine go ?_;refine aK rfl (pC (qrd n p2 z7 rJ iH) _) T0 (bT rfl (wX rfl rfl (qpp _ _ _) rfl) ?_);refine gF J ?_ ?_<;>intro eH J;exact gx J;refine go ?_;exact lC ⟨_,J,rfl,rfl⟩;refine go ?_;exact xC ⟨J,rfl,rfl⟩
def Oe(n:Nat)(p1:Z Int)(p2:Z Int):I (BQ):=
 a8 (a8 (Gg n p1 p2) fun r3=>cond r3 (a8 (Gg n p2 p1) fun r6=>some r6) (some false)) fun b8=>some b8
theorem qot(n:Nat)(p1:Z Int)(p2:Z Int)(r:BQ)(J:Oe n p1 p2=some r):dJ prog 81 [.isl false (p1.map (cI .u64)),.isl false (p2.map (cI .u64))] (.bool r):=by unfold Oe at J;refine eO 13 Vh ?_;obtain⟨b8,h9,J⟩:=aL J;refine gr ?_;refine fK (fun tm X=>tm=fr 13 [(4,.bool b8)]/\X=⟨[],0⟩) ?_ ?_;rintro _ _ ⟨rfl,rfl⟩;exact gx J;obtain⟨r3,h4,h9⟩:=aL h9;refine go ?_;refine aK rfl (pC (qfr n p1 p2 r3 h4) _) I7 ?_;refine go ?_;rcases gB h9 with⟨h5,h9⟩|⟨h5,h9⟩;obtain⟨r6,h7,h9⟩:=aL h9;obtain rfl:=sI h9;refine go ?_;refine aK rfl (pC (qfr n p2 p1 r6 h7) _) I7 ?_;refine go ?_;exact xC ⟨rfl,rfl⟩;exact gy h9
def Gf(n:Nat)(p1:mV)(c2:Z Int):I (BQ):=
 a8 (Oe n p1.Code c2) fun r3=>some r3
theorem qn9(n:Nat)(p1:mV)(c2:Z Int)(r:BQ)(J:Gf n p1 c2=some r):dJ prog 80 [.agg (m4 p1),.iptr [.isl false (c2.map (cI .u64))]] (.bool r):=by unfold Gf at J;refine eO 8 Vi ?_;obtain⟨r3,h4,J⟩:=aL J;refine go ?_;refine aK rfl (pC (qot n p1.Code c2 r3 h4) _) Vh ?_;exact gx J
def JY(n:Nat)(p1:eD)(p2:Int)(p3:Int):I (Int×BQ):=
 a8 (aC p1.Types p2) fun x4=>
 a8 (aC p1.Types p3) fun x6=>
 a8 (Nj n x4.Code x6.Code) fun r8=>cond ((r8.length:Int)==0) (some (0,false)) (a8 (kz (Gf n) n p1.Types r8) fun rJ=>cond (decide (rJ<0)) (some (0,false)) (some (rJ,true)))
theorem qrs(n:Nat)(p1:eD)(p2:Int)(p3:Int)(r:Int×BQ)(J:JY n p1 p2 p3=some r):dJ prog 53 [.agg (m5 p1),.int .i64 p2,.int .i64 p3] (.tup [.int .i64 r.1,.bool r.2]):=by unfold JY at J;refine TR 33 Vt ?_;obtain⟨x4,h5,x6,h7,r8,h9,J⟩:=pR J;refine go ?_;refine dE [(0,13),(1,13),(2,13),(3,13),(4,13),(5,13),(6,13),(7,13),(8,13),(9,13),(10,13),(11,13)] ?_;refine gd ?_;refine cY h5 ?_;refine gd ?_;refine cY h7 ?_;refine gd ?_;refine dV rfl (pC (qvj n x4.Code x6.Code r8 h9)) Vk ?_;refine fO ?_;refine wO ?_;refine bN ⟨by kernel_rfl,⟨y9 tD.h rfl (bZ Z7.h) rfl rfl rfl,⟨LS EZ.h rfl rfl rfl rfl,⟨mW rfl,⟨fA rfl rfl (Ee m4 EZ.h (bZ GS.h) ir h5 rfl),⟨uk F3.h rfl (bZ oB.h) rfl rfl,⟨Ll fM.h rfl rfl rfl,⟨y9 tD.h rfl (bZ Z7.h) rfl rfl rfl,⟨LS EZ.h rfl rfl rfl rfl,⟨mW rfl,⟨fA rfl rfl (Ee m4 EZ.h (bZ GS.h) ir h7 rfl),⟨uk F3.h rfl (bZ oB.h) rfl rfl,⟨Ll fM.h rfl rfl rfl,trivial⟩⟩⟩⟩⟩⟩⟩⟩⟩⟩⟩⟩,?_⟩;refine gF J ?_ ?_<;>intro iR J;refine go ?_;obtain rfl:=sI J;exact LJ rfl rfl rfl rfl rfl;obtain⟨rJ,iH,J⟩:=aL J;refine go ?_;refine bT rfl (Yi rfl rfl) (aK rfl (vw (q9f (Gf n) (qn9 n) n p1.Types r8 rJ iH) (rE 1 1)) Vj ?_);refine gF J ?_ ?_<;>intro eH J;refine go ?_;obtain rfl:=sI J;exact LJ rfl rfl rfl rfl rfl;refine go ?_;obtain rfl:=sI J;exact LJ rfl rfl rfl rfl rfl
def cW(nm:Nat->Nat)(w:Nat×Nat):Z U:=[pt nm w.1,pt nm w.2]
inductive WK(nm:Nat->Nat)(nx:Nat)(W:List (Nat×Nat))(u:U)(H:List (Nat×B)):Prop
 |vl (K st off:Nat) (xs:List (Nat×Nat)) (hu:u=.vl K st off W.length) (hg:gt H K=some (.bv (cW nm) xs 200 2 st)) (hx:xs.drop off=W) (ho:off<=xs.length) (hz:off=0\/W≠[]) (hK:nx<=K)
 |em (hu:u=.isl true []) (hW:W=[])
variable{nm:Nat->Nat}
variable{nx:Nat}
variable{W:Z (Nat×Nat)}
variable{u:U}
variable{H:Z (Nat×B)}
theorem WK.len{N:Nat}(w:WK nm nx W u H):v7 tb ⟨H,N⟩ 201 u=some (.int .i64 W.length):=by cases w with|vl K st off xs hu hg hx ho hz hK=>subst hu;exact YE kE.h hg|em hu hW=>subst hu;subst hW;exact qyg (cW nm) kE.h (xs:=[])
theorem z6m{m:Nat}(h:1<=m):fD m m (some (.int .i64 1)) none none=some (1,m,m):=by have h1:oM 1 (m+1)=true:=JN ⟨by omega,by omega⟩;simp[fD,iA,h1]
variable{n:Nat}
theorem WK.cut{C:PG}(hT:iK C.prog tb){w:Nat×Nat}{N:Nat}{l:Z (Nat×U)}{o:Oper}{xo:Jp}(wk:WK nm nx (w::W) u H)(ho:o.op=.slice 201 xo (some (.const (.int .i64 1))) none none)(hx:bO n l xo=some u):
  eT C ⟨H,N⟩ (fr n l) o (fun u' X'=>∃H' K,X'=⟨H',N⟩/\WK nm nx W u' H'/\nx<=K/\(∃q s,gt H K=some (.vec q 200 2 s))/\∀k,k≠K->gt H' k=gt H k):=by
 cases wk with|em hu hW=>cases hW|vl K st off xs hu hg l_ ym hz hK=>
 subst hu;have aN:xs.length=off+(W.length+1):=by have:=congrArg List.length l_;rw[List.length_drop]at this;simp at this;omega
 have B0:(xs.map (cW nm)).flatten.length=xs.length*2:=C5 (c:=cW nm) (fun _=>rfl) xs;have Ue:xs.drop (off+1)=W:=by have:=congrArg List.tail l_;simpa[List.tail_drop]using this
 cases W with
 |nil=>refine(eT.cut0 hT ho kE.h (bZ pY.h) (dH hx) rfl hg (by rw[B0];simp at aN;omega)).mono ?_;rintro u' s (⟨rfl,rfl⟩|⟨rfl,rfl⟩);exact⟨_,K,rfl,.vl K (st+1) 0 [] rfl (by rw[c7,if_pos rfl,hg];rfl) rfl (zF _) (.inl rfl) hK,hK,⟨_,_,hg⟩,fun k hk=>by rw[c7,if_neg (Ne.symm hk)]⟩;exact⟨_,K,rfl,.em rfl rfl,hK,⟨_,_,hg⟩,fun k hk=>rfl⟩
 |cons w2 W=>
  have pF:bF tb ⟨H,N⟩ (fr n l) o.op=some (.vl K st (off+1) (w2::W).length,⟨H,N⟩):=by rw[ho];refine JW hx rfl rfl rfl ?_;have:=Iq (X:=⟨H,N⟩) (cW nm) kE.h (bZ pY.h) (fun _=>rfl) (K:=K) (st:=st) (off:=off) (m:=(w::w2::W).length) (xs:=xs) (e':=200) (by simp[mK,hg,B.bv]) (by simp at aN ⊢;omega) (z6m (by simp));rw[this];simp
  refine(eT.op hT pF).mono ?_;rintro u' s ⟨rfl,rfl⟩;exact⟨H,K,rfl,.vl K st (off+1) xs rfl hg Ue (by simp at aN;omega) (.inr (by simp)) hK,hK,⟨_,_,hg⟩,fun k hk=>rfl⟩
def N6(g:Int)(p:Nat)(mine:Z dR):Z dR->Z (Nat×Nat)->Z PN->I (Z (Nat×Nat)×Z PN)
 |[],W,N=>some (W,N)|y::ys,W,N=>cond (decide (y3 (fun z=>z.f==y.f) mine>=0)) (a8 (aC mine (y3 (fun z=>z.f==y.f) mine)) fun z=>aG (W.length<=1000000) (N6 g p mine ys (W++[(z.to,y.to)]) N)) (a8 N[p]? fun x=>aG ((g8 g x).length<=1000000) (N6 g p mine ys W (N.set p { x with more:=g8 g x++[y],moA:=g })))
def IR(H:eD)(g:Int)(n:Nat):Nat->Z (Nat×Nat)->Z PN->I (BQ×Z PN)
 |0,_,_=>none|_+1,[],N=>some (true,N)
 |m+1,w::W,N=>
  a8 (rL N g n w.1) fun p=>
  a8 (rL N g n w.2) fun q=>cond (Nat.beq p q) (IR H g n m W N) (a8 N[p]? fun x=>
   a8 N[q]? fun y=>
   a8 (JY n H (gE g x) (gE g y)) fun r=>cond (!r.2) (some (false,N)) (aG ((bW g x).length<=1000000/\(bW g y).length<=1000000) (a8 (N6 g p (bW g x) (bW g y) W N) fun s=>
    a8 s.2[p]? fun x1=>
    a8 (s.2.set p { x1 with mt:=r.1,mtA:=g })[q]? fun y1=>
    IR H g n m s.1 ((s.2.set p { x1 with mt:=r.1,mtA:=g }).set q { y1 with fw:=some p,fwA:=g }))))
section
variable{kp kr st:Nat}{nm:Nat->Nat}{P:PP}{h:Z (Nat×B)}{nx:Nat}
variable{i:Nat}
variable{x:PN}
theorem PH.upd(p:PH kp kr st nm P h){y:PN}(hx:P.N[i]? = some x)(hy:jK P.N.length y)(h1:gt H (nm i)=some (.row (nM nm y) 103))(h2:∀k b,gt h k=some b->k≠nm i->gt H k=some b):PH kp kr st nm { P with N:=P.N.set i y } H:=by
 have hi:i<P.N.length:=(zG.1 hx).1;have hn:=p.node i x hx;refine⟨h2 _ _ p.pool fun e=>?_,h2 _ _ p.roots fun e=>?_,fun j z hz=>?_,fun a b ha hb=>p.inj a b (by simpa using ha) (by simpa using hb),fun z hz=>?_,fun r hr=>by simpa using p.rt r hr⟩;have:=p.pool;rw[e,hn]at this;simp at this;have:=p.roots;rw[e,hn]at this;cases this;rw[List.getElem?_set]at hz;by_cases e:i=j;subst e;rw[if_pos rfl,if_pos hi]at hz;cases hz;exact h1;rw[if_neg e]at hz;have hj:j<P.N.length:=(zG.1 hz).1;exact h2 _ _ (p.node j z hz) fun e2=>e (p.inj i j hi hj e2.symm);have aN:(P.N.set i y).length=P.N.length:=by simp
 show jK (P.N.set i y).length z;rw[aN];rcases List.mem_or_eq_of_mem_set hz with hz |rfl;exact p.wf z hz;exact hy
theorem PH.keep(p:PH kp kr st nm P h){K:Nat}{q:Z U}{s:Nat}(hK:gt h K=some (.vec q 200 2 s))(h2:∀k b,gt h k=some b->k≠K->gt H k=some b):PH kp kr st nm P H:=by
 have cT:∀k b,gt h k=some b->(∀q s,b≠.vec q 200 2 s)->gt H k=some b:=fun k b hb hn=>h2 k b hb fun e=>by rw[e,hK]at hb;cases hb;exact hn _ _ rfl
 exact⟨cT _ _ p.pool (by simp),cT _ _ p.roots (by simp[dL]),fun i x hx=>cT _ _ (p.node i x hx) (by simp),p.inj,p.wf,p.rt⟩
theorem PH.put(p:PH kp kr st nm P h)(y:PN)(hx:P.N[i]? = some x)(hy:jK P.N.length y):PH kp kr st nm { P with N:=P.N.set i y } (ug h (nm i) (.row (nM nm y) 103)):=
 p.upd hx hy (by rw[c7,if_pos rfl,p.node i x hx];rfl) fun k b hb hk=>by rw[c7,if_neg (Ne.symm hk)];exact hb
theorem WK.keep{nx:Nat}(w:WK nm nx W u h)(h2:∀k q s,gt h k=some (.vec q 200 2 s)->gt H k=some (.vec q 200 2 s)):WK nm nx W u H:=by cases w with|vl K st off xs hu hg hx ho hz hK=>exact .vl K st off xs hu (h2 _ _ _ hg) hx ho hz hK|em hu hW=>exact .em hu hW
theorem WK.put(p:PH kp kr st nm P h){GA:Nat}(w:WK nm GA W u h)(hx:P.N[i]? = some x)(b:B):WK nm GA W u (ug h (nm i) b):=
 w.keep fun k q s hk=>by rw[c7,if_neg fun e=>?_];exact hk;rw[<-e,p.node i x hx]at hk;cases hk
theorem PH.more(p:PH kp kr st nm P h)(h2:∀k b,gt h k=some b->gt H k=some b):PH kp kr st nm P H :=
 ⟨h2 _ _ p.pool,h2 _ _ p.roots,fun i x hx=>h2 _ _ (p.node i x hx),p.inj,p.wf,p.rt⟩
theorem M3{g:Int}(w:jK n x):∀a∈bW g x,a.to<n:=fun a ha=>by
 rcases yD.1 ha with ha |ha;exact w.arcs a ha;unfold g8 at ha;rcases hb:x.moA != g with _|_;rw[hb]at ha;exact w.more a ha;rw[hb]at ha;cases ha
theorem ec{g:Int}(w:jK n x):∀a∈g8 g x,a.to<n:=fun a ha=>M3 (g:=g) w a (yD.2 (.inr ha))
theorem Eo{nm:Nat->Nat}{M:Nat}(hn:∀k,k<n->nm k<M):∀{o:I Nat},DF n o->aP M (po nm o)
 |none,_=>trivial|some i,h=>hn i h
theorem WK.bel{nx:Nat}{M:Nat}(w:WK nm nx W u h)(hw:nN ⟨h,M⟩):aP M u:=by cases w with|vl K st off xs hu hg hx ho hz hK=>subst hu;exact(hw K _ hg).1|em hu hW=>subst hu;simp[aP,jO]
theorem qj{N:Z PN}{g:Int}:∀{n i r:Nat},rL N g n i=some r->∃x,N[r]? = some x
 |0,_,_,h=>by cases h
 |n+1,i,r,h=>by
  obtain⟨x,hx,h⟩:=aL h;cases hb:x.fwA != g with
  |true=>rw[hb]at h;obtain rfl:=sI h;exact⟨x,hx⟩
  |false=>rw[hb]at h;obtain⟨q,_,h⟩:=aL h;exact qj h
theorem UQ(p:PH kp kr st nm P h)(n:Nat){a b:Nat}{r:BQ×Z PN}(J:IR P.H P.gen n n [(a,b)] P.N=some r):
  aV prog 65 [.ptr kp 0 0,pt nm a,pt nm b] ⟨h,nx⟩ (fun u X'=>∃H N,u=.bool r.1/\X'=⟨H,N⟩/\PH kp kr st nm { P with N:=r.2 } H/\r.2.length=P.N.length/\nx<=N/\∀k,k<nx->(∀i,i<P.N.length->nm i≠k)->gt H k=gt h k):=by
 refine aV.wf fun uP _=>?_;refine TR 129 Vo ?_;refine goN ?_;refine RS.w (u:=.agg [pt nm a,pt nm b]) rfl (QB (qs:=[(0,pt nm a),(1,pt nm b)]) rfl (by kernel_rfl)) ?_;refine goN ?_;refine RS.step (u:=.vl nx 0 0 1) (X':=⟨(nx,.bv (cW nm) [(a,b)] 200 2 0)::h,nx+1⟩) rfl ?_ rfl rfl ?_;exact eT.bslv (k:=1) (cs:=(List.map (cW nm) [(a,b)]).flatten) tb_ok rfl kE.h pY.h rfl rfl rfl rfl rfl rfl rfl rfl;refine goN ?_;have p0:PH kp kr st nm P ((nx,.bv (cW nm) [(a,b)] 200 2 0)::h):=p.more fun k b hb=>by rw[jQ (uP k b hb).1];exact hb
 refine gL (fun m tm X=>∃W N uw H N1,IR P.H P.gen n m W N=some r/\tm=fr 129 [(0,.ptr kp 0 0),(7,uw)]/\X=⟨H,N1⟩/\PH kp kr st nm { P with N:=N } H/\WK nm nx W uw H/\N.length=P.N.length/\nx<=N1/\∀k,k<nx->(∀i,i<P.N.length->nm i≠k)->gt H k=gt h k)
  (fun tm X=>tm=fr 129 []/\r.1=true/\∃H N1,X=⟨H,N1⟩/\PH kp kr st nm { P with N:=r.2 } H/\r.2.length=P.N.length/\nx<=N1/\∀k,k<nx->(∀i,i<P.N.length->nm i≠k)->gt H k=gt h k) n
  ⟨[(a,b)],P.N,.vl nx 0 0 1,_,_,J,rfl,rfl,p0,.vl nx 0 0 [(a,b)] rfl (by simp[aQ]) rfl (Nat.zero_le _) (.inl rfl) (zF _),rfl,Nat.le_succ _,fun k hk _=>jQ hk⟩ ?_ ?_ (Nat.le_succ _)
 rintro _ _ ⟨rfl,h1,H,N1,rfl,h2,h3,h4,h5⟩;refine goN ?_;exact AC rfl rfl rfl h4 ⟨H,N1,by rw[h1],rfl,h2,h3,h4,h5⟩;rintro(_ |m) _ _ ⟨W,N,uw,H,N1,J,rfl,rfl,hp,NF,aN,iE,fP⟩;cases J;refine goN ?_;refine RS.w rfl (JK rfl rfl rfl NF.len) ?_;refine goN ?_;cases W with
 |nil=>obtain rfl:=sI J;refine dS rfl (fun h1=>by cases h1) (fun h1=>?_);refine goN ?_;exact⟨_,_,⟨rfl,rfl,H,N1,rfl,hp,aN,iE,fP⟩,iE,Gh.sub trivial⟩
 |cons w W=>
 cases NF with|em hu hW=>cases hW|vl K bG off xs hu hg hx ho hz hK=>
 subst hu;have pD:nR xs off (w::W).length 0=some w:=by rw[nR,if_pos ⟨by omega,by simp⟩];have:=congrArg (fun l=>l[0]?) hx;simpa using this
 have hv:mK ⟨H,N1⟩ K bG=some ((xs.map (cW nm)).flatten,200,2):=by simp[mK,hg,B.bv]
 have ZW:live ⟨H,N1⟩ K bG=true:=by simp[live,hg,B.bv,B.st]
 refine dS rfl (fun h1=>?_) (fun h1=>by simp at h1);obtain⟨i,hi,j,hj,J⟩:=cB J;refine goN ?_;apply aR;refine goN ?_;refine dE [] ?_;refine cU ?_;refine bM rfl (fA rfl rfl (S2 (cW nm) kE.h (bZ pY.h) (by decide) (fun _=>rfl) hv pD)) ?_;refine bM (u:=.ptr K bG (off*2+(0:Int).toNat*2+0)) rfl (fA rfl rfl (AD PC.h (bZ iC.h) ZW ⟨by decide,by decide⟩ rfl)) ?_;refine bM (u:=pt nm w.1) rfl (Ds (cW nm) gK.h rfl (fun _=>rfl) rfl hg pD rfl) (RD.call rfl (g9 rfl wB rfl).2 (JS hp n hi) rfl rfl ?_);refine cU ?_;refine bM rfl (fA rfl rfl (S2 (cW nm) kE.h (bZ pY.h) (by decide) (fun _=>rfl) hv pD)) ?_;refine bM (u:=.ptr K bG (off*2+(0:Int).toNat*2+1)) rfl (fA rfl rfl (AD PC.h (bZ iC.h) ZW ⟨by decide,by decide⟩ rfl)) ?_;refine bM (u:=pt nm w.2) rfl (Ds (cW nm) gK.h rfl (fun _=>rfl) rfl hg pD rfl) (RD.call rfl (g9 rfl wB rfl).2 (JS hp n hj) rfl rfl ?_);refine cU ?_;refine bN ⟨by kernel_rfl,trivial,?_⟩;refine goN ?_;refine xV rfl (WK.cut tb_ok (.vl K bG off xs rfl hg hx ho hz hK) rfl rfl) ?_;rintro uw _ ⟨H',K',rfl,NF,hK',⟨q',s',yj⟩,sR⟩;have oP:=hp.keep yj (fun k b hb hk=>by rw[sR k hk];exact hb);have Ai:∀k,k<nx->(∀i,i<P.N.length->nm i≠k)->gt H' k=gt h k:=fun k hk hn=>by rw[sR k (by omega),fP k hk hn]
 clear fP sR yj hg hx ho hz pD hv ZW hp;obtain⟨x,hx⟩:=qj hi;obtain⟨y,hy⟩:=qj hj;have lV:i<N.length:=(zG.1 hx).1;have gZ:j<N.length:=(zG.1 hy).1;have rX:Nat.beq (nm i) (nm j)=Nat.beq i j:=by rw[beq_eq,beq_eq];by_cases e:i=j;simp[e];have:nm i≠nm j:=fun h=>e (oP.inj i j lV gZ h);simp[e,this]
 refine goN ?_;refine xV rfl (eT.peq tb_ok rfl (.inl rfl) gK.h (bZ lT.h) (dH rfl) (dH rfl) (oP.node i x hx) (oP.node j y hy)) ?_;rintro _ _ ⟨rfl,rfl⟩;refine goN ?_;refine dS rfl (fun h2=>?_) (fun h2=>?_)
 ·rw[if_pos rfl,rX]at h2;rw[h2]at J;refine goN ?_;exact⟨m,_,_,zN _,⟨W,N,uw,H',N1,J,rfl,rfl,oP,NF,aN,iE,Ai⟩,iE,Gh.sub (by((repeat refine⟨rfl,?_⟩);exact trivial))⟩
 rw[if_pos rfl,rX]at h2;rw[h2]at J;obtain⟨x',uO,J⟩:=aL J;rw[hx]at uO;cases uO;obtain⟨y',pB,J⟩:=aL J;rw[hy]at pB;cases pB;obtain⟨r1,hr1,J⟩:=aL J
 haveI:=oP.gp
 refine goN ?_;refine dE [] ?_;refine cU ?_;refine RD.call rfl (g9 rfl w9 rfl).2 (Mf oP hx) rfl rfl ?_;refine cU ?_;refine RD.call rfl (g9 rfl w9 rfl).2 (Mf oP hy) rfl rfl ?_;refine cU ?_;refine dV rfl (pC (qrs n P.H _ _ r1 hr1)) Vt ?_;refine cU ?_;refine bN ⟨by kernel_rfl,trivial,?_⟩;refine goN ?_;refine dS rfl (fun h3=>?_) (fun h3=>?_);rw[h3]at J;obtain rfl:=sI J;refine goN ?_;exact AC rfl rfl rfl iE ⟨H',N1,rfl,rfl,oP,aN,iE,Ai⟩;rw[h3]at J;obtain⟨⟨AV,AU⟩,J⟩:=cQ J;obtain⟨s,hs,J⟩:=aL J;have vr:∀a∈bW P.gen y,a.to<P.N.length:=by rw[<-aN];exact M3 (oP.wf y (zX hy))
 refine goN ?_;refine aK rfl (ae oP hx AV) D7 ?_;refine goN ?_;refine aK rfl (ae oP hy AU) D7 ?_;refine goN ?_;refine gL (fun m tm X=>∃(t:Nat)(W1:Z (Nat×Nat))(N2:Z PN)(EW:U)(H1:Z (Nat×B))(M1:Nat),m=(bW P.gen y).length-t/\t<=(bW P.gen y).length/\N6 P.gen i (bW P.gen x) ((bW P.gen y).drop t) W1 N2=some s/\tm=fr 129 [(0,.ptr kp 0 0),(7,EW),(8,pt nm i),(9,pt nm j),(10,.i6 r1.1),(12,.iM (bX nm) (bW P.gen x)),(63,.iM (bX nm) (bW P.gen y)),(64,.i6 (bW P.gen y).length),(65,.i6 t)]/\X=⟨H1,M1⟩/\PH kp kr st nm { P with N:=N2 } H1/\WK nm nx W1 EW H1/\N2.length=P.N.length/\nx<=M1/\∀k,k<nx->(∀i,i<P.N.length->nm i≠k)->gt H1 k=gt h k)
  (fun tm X=>∃(EW:U)(H1:Z (Nat×B))(M1:Nat),tm=fr 129 [(0,.ptr kp 0 0),(7,EW),(8,pt nm i),(9,pt nm j),(10,.i6 r1.1)]/\X=⟨H1,M1⟩/\PH kp kr st nm { P with N:=s.2 } H1/\WK nm nx s.1 EW H1/\s.2.length=P.N.length/\nx<=M1/\∀k,k<nx->(∀i,i<P.N.length->nm i≠k)->gt H1 k=gt h k) (bW P.gen y).length
  ⟨0,W,N,uw,H',N1,rfl,Nat.zero_le _,hs,rfl,rfl,oP,NF,aN,iE,Ai⟩ ?_ ?_ iE
 ·rintro _ _ ⟨EW,H1,M1,rfl,rfl,m9,yR,lU,vS,vY⟩;obtain⟨x1,ZB,y1,ZA,J⟩:=cB J
  haveI:=m9.gp
  haveI:=m9.gn ZB
  refine goN ?_;have fJ:=m9.wf x1 (zX ZB);have oC:=m9.put { x1 with mt:=r1.1,mtA:=P.gen } ZB ⟨fJ.arcs,fJ.fw,fJ.more,fJ.cp⟩;have Se:=WK.put m9 yR ZB (.row (nM nm { x1 with mt:=r1.1,mtA:=P.gen }) 103);change RU _ _ _ _ _ (Sg.mk (ug H1 (nm i) (.row (nM nm { x1 with mt:=r1.1,mtA:=P.gen }) 103)) M1) _
  haveI:=oC.gp
  haveI:=oC.gn ZA
  refine goN ?_;have mO:=oC.wf y1 (zX ZA);have ZP:=oC.put { y1 with fw:=some i,fwA:=P.gen } ZA ⟨mO.arcs,by show i<_;simp;rw[lU,<-aN];exact lV,mO.more,mO.cp⟩;have q_:=WK.put oC Se ZA (.row (nM nm { y1 with fw:=some i,fwA:=P.gen }) 103);refine⟨m,_,_,zN _,⟨s.1,_,EW,_,M1,J,rfl,rfl,ZP,q_,by simp[lU],vS,fun k hk hn=>?_⟩,vS,Gh.sub (by((repeat refine⟨rfl,?_⟩);exact trivial))⟩;rw[c7,if_neg (hn j (by rw[<-aN];exact gZ)),c7,if_neg (hn i (by rw[<-aN];exact lV))];exact vY k hk hn
 rintro _ _ _ ⟨t,W1,N2,EW,H1,M1,rfl,ht,cO,rfl,rfl,m9,yR,lU,vS,vY⟩;refine goN ?_;refine dS rfl (fun h4=>?_) (fun h4=>?_)
 ·have eQ:t<(bW P.gen y).length:=by simpa using h4
  obtain⟨ya,Sc⟩:∃a,(bW P.gen y)[t]? = some a:=⟨_,List.getElem?_eq_getElem eQ⟩;have lH:aC (bW P.gen y) (t:Int)=some ya:=by rw[aC,if_pos ⟨by omega,by omega⟩];simpa using Sc
  have xQ:(bW P.gen y).drop t=ya::(bW P.gen y).drop (t+1):=by rw[List.drop_eq_getElem_cons eQ];rw[List.getElem?_eq_getElem eQ]at Sc;cases Sc;rfl
  rw[xQ]at cO;refine WPU.wf fun fJ lf=>?_
  haveI:SuC M1 (M1+1):=⟨rfl⟩
  haveI:SuC (M1+1) (M1+2):=⟨rfl⟩
  refine goN ?_;apply aR;refine goN ?_;refine aW lH ?_;refine goN ?_;refine RS.w rfl (Yi rfl rfl) ?_;refine aK rfl (z5f TI rfl AV (fun a _=>z8e (y:=ya) (by simp[aQ]) a)) I9 ?_;refine goN ?_;have hH:∀k b,gt H1 k=some b->gt ((M1,.row (bX nm ya) 107)::H1) k=some b:=fun k b hb=>by rw[jQ (fJ k b hb).1];exact hb
  have oC:=m9.more hH;have Se:=yR.keep fun k q s hk=>hH k _ hk;change cond (decide (y3 (fun z=>z.f==ya.f) (bW P.gen x)>=0)) _ _=some s at cO;refine dS rfl (fun h5=>?_) (fun h5=>?_)
  ·rw[h5]at cO;obtain⟨z,hz,cO⟩:=aL cO;obtain⟨hWl,cO⟩:=cQ cO;refine goN ?_;cases yR with
   |vl K bG off xs hu hg hx ho GT hK=>
    subst hu;have hKM:K<M1:=(fJ K _ hg).1;have tS:gt ((M1+1,.row [pt nm z.to,pt nm ya.to] 200)::(M1,.row (bX nm ya) 107)::H1) K=some (.vec (xs.map (cW nm)).flatten 200 2 bG):=by rw[aQ,if_neg (by omega),aQ,if_neg (by omega)];exact hg
    refine dE [(0,9)] ?_;refine cU ?_;refine cY hz ?_;refine cU ?_;refine bM (u:=.agg [pt nm z.to,pt nm ya.to]) rfl (QB (qs:=[(0,pt nm z.to),(1,pt nm ya.to)]) rfl (by kernel_rfl)) ?_;refine fO ?_;refine RD.act rfl (rN rfl rfl rfl rfl (Cs (cW nm) [(z.to,ya.to)] kE.h kE.h pY.h rfl (fun _=>rfl) tS hx ho GT (by simp) (E8 (cW nm) [(z.to,ya.to)] (q:=[pt nm z.to,pt nm ya.to]) (by simp[rowOf,aQ]) rfl rfl rfl) ⟨by simp;omega,by simp;omega⟩)) rfl rfl ?_;refine cU ?_;refine bN ⟨by kernel_rfl,⟨mW rfl,trivial⟩,?_⟩;refine goN ?_;refine⟨(bW P.gen y).length-(t+1),_,_,by omega,⟨t+1,W1++[(z.to,ya.to)],N2,.vl K (bG+1) 0 (W1++[(z.to,ya.to)]).length,_,M1+2,rfl,eQ,cO,rfl,rfl,?_,?_,lU,by omega,?_⟩,by show nx<=M1+2;omega,Gh.sub ?_⟩;refine m9.keep hg fun k b hb hk=>?_;have:k<M1:=(fJ k b hb).1;rw[c7,if_neg (Ne.symm hk),aQ,if_neg (by omega),aQ,if_neg (by omega)];exact hb;exact .vl K (bG+1) 0 (W1++[(z.to,ya.to)]) rfl (by rw[c7,if_pos rfl,tS];rfl) rfl (Nat.zero_le _) (.inl rfl) hK;intro k hk hn;rw[c7,if_neg (by omega),aQ,if_neg (by omega),aQ,if_neg (by omega)];exact vY k hk hn
    ·have kN:IntKind.i64.wrap ((t:Int)+1)=((t+1:Nat):Int):=by rw[oA (by omega) (by omega)];rfl
     rw[<-kN];(repeat refine⟨rfl,?_⟩);exact trivial
   |em hu hW=>
    subst hu;subst hW
    haveI:SuC (M1+2) (M1+3):=⟨rfl⟩
    refine dE [(0,9)] ?_;refine cU ?_;refine cY hz ?_;refine cU ?_;refine bM (u:=.agg [pt nm z.to,pt nm ya.to]) rfl (QB (qs:=[(0,pt nm z.to),(1,pt nm ya.to)]) rfl (by kernel_rfl)) ?_;refine fO ?_;refine RD.act rfl (rN rfl rfl rfl rfl (z1l (cW nm) [(z.to,ya.to)] (xs:=[]) kE.h kE.h pY.h rfl (fun _=>rfl) (E8 (cW nm) [(z.to,ya.to)] (q:=[pt nm z.to,pt nm ya.to]) (by simp[rowOf,aQ]) rfl rfl rfl) (by simp) ⟨by simp,by simp⟩)) rfl rfl ?_;refine cU ?_;refine bN ⟨by kernel_rfl,⟨mW rfl,trivial⟩,?_⟩;refine goN ?_;refine⟨(bW P.gen y).length-(t+1),_,_,by omega,⟨t+1,[]++[(z.to,ya.to)],N2,.vl (M1+2) 0 0 ([]++[(z.to,ya.to)]).length,_,M1+3,rfl,eQ,cO,rfl,rfl,?_,?_,lU,by omega,?_⟩,by show nx<=M1+3;omega,Gh.sub ?_⟩;refine m9.more fun k b hb=>?_;have:k<M1:=(fJ k b hb).1;show gt ((M1+2,_)::(M1+1,_)::(M1,_)::H1) k=some b;rw[aQ,if_neg (by omega),aQ,if_neg (by omega),aQ,if_neg (by omega)];exact hb;exact .vl (M1+2) 0 0 [(z.to,ya.to)] rfl (by simp[newU,aQ]) rfl (Nat.zero_le _) (.inl rfl) (by omega);intro k hk hn;show gt ((M1+2,_)::(M1+1,_)::(M1,_)::H1) k=_;rw[aQ,if_neg (by omega),aQ,if_neg (by omega),aQ,if_neg (by omega)];exact vY k hk hn
    ·have kN:IntKind.i64.wrap ((t:Int)+1)=((t+1:Nat):Int):=by rw[oA (by omega) (by omega)];rfl
     rw[<-kN];(repeat refine⟨rfl,?_⟩);exact trivial
  ·rw[h5]at cO;obtain⟨x2,vM,cO⟩:=aL cO;obtain⟨mP,cO⟩:=cQ cO
   haveI:=oC.gp
   haveI:=oC.gn vM
   refine goN ?_;refine dE [] ?_;refine cU ?_;refine dV rfl (fun s=>OB s nm x2.more x2.moA P.gen) wE ?_;refine cU ?_;refine bN ⟨by kernel_rfl,trivial,?_⟩;refine goN ?_;have hN:∀k,k<P.N.length->nm k<M1:=fun k hk=>(fJ _ _ (m9.node k _ (List.getElem?_eq_getElem (by show k<N2.length;omega)))).1;have rV:kp<M1:=(fJ _ _ m9.pool).1;have AS:=hN i (by omega);have nq:∀{a b:Nat},b<a->Nq a b:=fun h=>⟨by rw[beq_eq];simp;omega⟩
   haveI:Nq M1 kp:=nq rV
   haveI:Nq (M1+1) kp:=nq (by omega)
   haveI:Nq M1 (nm i):=nq AS
   haveI:Nq (M1+1) (nm i):=nq (by omega)
   haveI:Nq (M1+1) M1:=nq (by omega)
   haveI:=m9.gp
   haveI:=m9.gn vM
   refine dE [(0,2),(0,5),(3,2),(6,2),(6,5),(7,2),(7,5),(8,2),(8,5),(9,2),(9,5)] ?_;refine cU ?_;refine ET rfl (g9 rfl BD rfl).2 (dr _ _ nm (g8 P.gen x2) mP) rfl rfl ?_;refine cU ?_;refine RD.freeO rfl (sK.bp (cs:=bX nm ya) BO.h AK.h rfl rfl rfl rfl rfl rfl rfl (fun m h=>by simpa only[aP]using h)) rfl rfl ?_;refine RD.act rfl (oAq (c:=bX nm) (xs:=g8 P.gen x2) (ys:=[ya]) rfl rfl rfl rfl rfl rfl rfl rfl ⟨by simp;omega,by simp;omega⟩) rfl rfl ?_;refine cU ?_;refine wO ?_;refine bN ⟨by kernel_rfl,⟨opm,opm,opm,opm,opm,opm,opm,opm,opm,opm,opm,trivial⟩,?_⟩;refine goN ?_;have B2:∀k,k<P.N.length->nm k<M1+1:=fun k hk=>Nat.lt_succ_of_lt (hN k hk);have fE:=m9.wf x2 (zX vM);have oE:(show PP from{ P with N:=N2 }).N.length=P.N.length:=lU;rw[oE]at fE;have hgK:∀(b:B)(H:Z (Nat×B)),gt ((M1+1,b)::H) (M1+1)=some b:=fun b H=>by simp[aQ]
   have gtfz:∀(b c d:B)(k:Nat),k<M1->k≠nm i->gt (fzH (M1+1) b 2 ((M1+1,b)::(M1,c)::ug H1 (nm i) d)) k=gt H1 k:=fun b c d k hk nL=>by rw[FX,if_neg (by omega),aQ,if_neg (by omega),aQ,if_neg (by omega),c7,if_neg (Ne.symm nL)];rcases hq:gt H1 k with _|b';rfl;simp only[zM];rw[Ez _ _ (Fc (Nat.le_succ M1) (fJ k b' hq).2)]
   have gtni:∀(b c:B)(R:Z U),gt (fzH (M1+1) b 2 ((M1+1,b)::(M1,c)::ug H1 (nm i) (.row R 103))) (nm i)=some (.row (iX (M1+1) b 2 R) 103):=fun b c R=>by rw[FX,if_neg (by omega),aQ,if_neg (by omega),aQ,if_neg (by omega),c7,if_pos rfl,m9.node i x2 vM];rfl
   refine⟨(bW P.gen y).length-(t+1),fr 129 [(0,.ptr kp 0 0),(7,EW),(8,pt nm i),(9,pt nm j),(10,.i6 r1.1),(12,.iM (bX nm) (bW P.gen x)),(63,.iM (bX nm) (bW P.gen y)),(64,.i6 (bW P.gen y).length),(65,.i6 ((t+1:Nat):Int))],⟨fzH (M1+1) (.bv (bX nm) (g8 P.gen x2++[ya]) 107 2 1) 2 _,M1+1+1⟩,by omega,⟨t+1,W1,N2.set i { x2 with more:=g8 P.gen x2++[ya],moA:=P.gen },EW,_,M1+1+1,rfl,eQ,cO,rfl,rfl,?_,?_,by simp[lU],by omega,?_⟩,by show nx<=M1+1+1;omega,Gh.trans (Gh.sub ?_) (Gh.fz (M1+1) (.bv (bX nm) (g8 P.gen x2++[ya]) 107 2 1) 2 (hgK _ _) nofun (yH _ _ _ (Ml ?_)) rfl)⟩;refine m9.upd vM ⟨?_,?_,?_,?_⟩ ((gtni _ _ _).trans ?_) fun k b hb hk=>(gtfz _ _ _ k (fJ k b hb).1 hk).trans hb;rw[oE];exact fE.arcs;rw[oE];exact fE.fw;rw[oE];intro a ha;rcases yD.1 ha with ha |ha
   exact ec fE a ha;simp at ha;subst ha;exact vr a (zX Sc);rw[oE];exact fE.cp;have e1:=LN (c:=bX nm) (sz:=2) (fun _=>rfl) (g8 P.gen x2++[ya]) (M1+1) 2 107 1;simp only[G0,M8,LV,LU,Q6,LW _ _ _ (Eo B2 fE.fw),LW _ _ _ (Eo B2 fE.cp)];rw[e1];rfl;refine yR.keep fun k q s hk=>(gtfz _ _ _ k (fJ k _ hk).1 fun e=>?_).trans hk;rw[e,m9.node i x2 vM]at hk;cases hk;intro k hk hn;exact(gtfz _ _ _ k (by omega) (Ne.symm (hn i (by omega)))).trans (vY k hk hn)
   ·have kN:IntKind.i64.wrap ((t:Int)+1)=((t+1:Nat):Int):=by rw[oA (by omega) (by omega)];rfl
    rw[<-kN];(repeat refine⟨rfl,?_⟩);exact trivial
   simp only[BelS,aP,and_true,true_and];exact⟨by omega,aP.le (Nat.le_succ M1) _ (yR.bel fJ),by omega,B2 j (by omega),Fq _ fun a ha=>B2 _ (by rw[<-aN];exact M3 (oP.wf x (zX hx)) a ha),Fq _ fun a ha=>B2 _ (vr a ha)⟩
 ·refine goN ?_;have eQ:t=(bW P.gen y).length:=by
   have:¬ (t:Int)<(bW P.gen y).length:=by simpa using h4
   omega
  subst eQ;rw[List.drop_length]at cO;obtain rfl:=sI cO;exact⟨_,_,⟨EW,H1,M1,rfl,rfl,m9,yR,lU,vS,vY⟩,vS,Gh.sub (by((repeat refine⟨rfl,?_⟩);exact trivial))⟩
end
def PY(N:Z PN)(g:Int)(n:Nat):Z dR->Z Nat->I (Z Nat)
 |[],out=>some out|a::l,out=>a8 (rL N g n a.to) fun q=>cond (out.contains q) (PY N g n l out) (aG (out.length<=1000000) (PY N g n l (out++[q])))
def U6(N:Z PN)(g:Int)(n:Nat):Nat->Nat->Z Nat->I (Z Nat)
 |0,_,_=>none|m+1,i,out=>cond (decide (i<out.length)) (a8 out[i]? fun p=>a8 N[p]? fun x=>aG ((bW g x).length<=1000000/\out.length<=1000000) (a8 (PY N g n (bW g x) out) fun o=>U6 N g n m (i+1) o)) (some out)
def EM(nm:Nat->Nat)(s:Nat)(out:Z Nat):Z (Nat×U×Nat):=(out.zipIdx s).map fun p=>(nm p.1,.bool true,p.2)
theorem z74(nm:Nat->Nat)(s:Nat)(out:Z Nat)(q:Nat):EM nm s (out++[q])=EM nm s out++[(nm q,.bool true,s+out.length)]:=by simp[EM,List.zipIdx_append]
theorem A'{nm:Nat->Nat}{n:Nat}(hi:∀i j,i<n->j<n->nm i=nm j->i=j){q:Nat}(hq:q<n):∀(out:Z Nat)(s:Nat),(∀k∈out,k<n)->uL (nm q) (EM nm s out)=cond (out.contains q) (some (.bool true)) none
 |[],s,_=>rfl|k::out,s,h=>by
  have ih:=A' hi hq out (s+1) fun k hk=>h k (by simp[hk]);simp only[EM,List.zipIdx_cons,zQ,uL]at ih ⊢;rw[ih,List.contains_cons];by_cases e:q=k;subst e;simp[beq_eq];have:nm k≠nm q:=fun h2=>e (hi q k hq (h k (by simp)) h2.symm);have e2:(q==k)=false:=by simpa using e
  simp[beq_eq,this,e2]
theorem Y'{nm:Nat->Nat}{h:Z (Nat×B)}{n:Nat}(hr:∀i,i<n->isRow h (nm i)):∀(out:Z Nat)(s:Nat),(∀k∈out,k<n)->∀e∈EM nm s out,isRow h e.1:=fun out s ho e he=>by
 simp only[EM,List.mem_map]at he;obtain⟨p,hp,rfl⟩:=he;exact hr _ (ho _ (List.fst_mem_of_mem_zipIdx hp))
section
variable{kp kr st:Nat}{nm:Nat->Nat}{P:PP}{h:Z (Nat×B)}{nx:Nat}
theorem PH.row(p:PH kp kr st nm P h):∀i,i<P.N.length->isRow h (nm i):=fun i hi=>⟨_,_,p.node i _ (List.getElem?_eq_getElem hi)⟩
theorem Zr{N:Z PN}{g:Int}{n i r:Nat}(h:rL N g n i=some r):r<N.length:=by obtain⟨x,hx⟩:=qj h;exact(zG.1 hx).1
structure Cv(kp kr st:Nat)(nm:Nat->Nat)(P:PP)(h:Z (Nat×B))(nx:Nat)(out:Z Nat)(Ks Ko so:Nat)(H:Z (Nat×B))(M:Nat):Prop where
 mp:gt H Ks=some (.map ((EM nm 0 out).map pE) out.length)
 vc:gt H Ko=some (.bv (dL nm) out 92 1 so)
 ks:nx<=Ks
 ko:nx<=Ko
 old:∀k,k<nx->gt H k=gt h k
 le:nx<=M
 lt:∀k∈out,k<P.N.length
theorem Cv.ph{out:Z Nat}{Ks Ko so M:Nat}{H:Z (Nat×B)}(r:Cv kp kr st nm P h nx out Ks Ko so H M)(p:PH kp kr st nm P h)(hw:nN ⟨h,nx⟩):PH kp kr st nm P H:=p.more fun k b hb=>by rw[r.old k (hw k b hb).1];exact hb
theorem z3x(p:PH kp kr st nm P h)(n:Nat){i:Nat}(hi:i<P.N.length){out:Z Nat}(J:U6 P.N P.gen n n 0 [i]=some out):
  aV prog 67 [.ptr kp 0 0,pt nm i] ⟨h,nx⟩ (fun u X'=>u=.iM (dL nm) out/\X'=⟨h,nx⟩):=by
 refine aV.wf fun uP _=>?_
 haveI:SuC nx (nx+1):=⟨rfl⟩
 haveI:SuC (nx+1) (nx+2):=⟨rfl⟩
 refine eO 49 Vn ?_;refine goN ?_;refine RS.w rfl qz3 ?_;refine goN ?_;have h1:∀(b:B),∀k c,gt h k=some c->gt ((nx,b)::h) k=some c:=fun b k c hc=>by rw[jQ (uP k c hc).1];exact hc
 refine RS.stepn rfl (eT.pins tb_ok (es:=[]) (cl:=0) (v:=.bool true) (.inr rfl) F1.h gK.h (bZ lT.h) (dH rfl) (dH rfl) (dH rfl) (by simp[newU,aQ]) (Y' (p.more (h1 _)).row [i] 0 (by simpa using hi) (nm i,.bool true,0) (by simp[EM])) (by simp) rfl) ?_;rintro _ _ ⟨rfl,rfl⟩;refine goN ?_;refine xV rfl (eT.bslv (k:=1) (cs:=(List.map (dL nm) [i]).flatten) (qs:=[(0,pt nm i)]) tb_ok rfl gM.h iC.h (Yq rfl) rfl rfl rfl rfl rfl rfl rfl) ?_;rintro _ _ ⟨rfl,rfl⟩;refine goN ?_;have Aj:∀(b c d:B)(k:Nat),k<nx->gt ((nx+1,b)::ug ((nx,c)::h) nx d) k=gt h k:=fun b c d k hk=>by rw[aQ,if_neg (by omega),c7,if_neg (by omega),aQ,if_neg (by omega)]
 refine gL (fun m tm X=>∃(t:Nat)(o:Z Nat)(so:Nat)(H:Z (Nat×B))(M:Nat),U6 P.N P.gen n m t o=some out/\tm=fr 49 [(0,.ptr kp 0 0),(5,.map nx),(6,.vl (nx+1) so 0 o.length),(7,.i6 t)]/\t<=o.length/\X=⟨H,M⟩/\Cv kp kr st nm P h nx o nx (nx+1) so H M)
  (fun tm X=>∃(so:Nat)(H:Z (Nat×B))(M:Nat),tm=fr 49 [(6,.vl (nx+1) so 0 out.length)]/\X=⟨H,M⟩/\Cv kp kr st nm P h nx out nx (nx+1) so H M) n
  ⟨0,[i],0,_,nx+2,J,rfl,Nat.zero_le _,rfl,⟨by show gt ((nx+1,_)::ug ((nx,_)::h) nx _) nx=_;rw[aQ,if_neg (by omega),c7,if_pos rfl];simp[aQ,EM],by simp[newU,aQ,B.bv],zF _,Nat.le_succ _,fun k hk=>Aj _ _ _ k hk,by omega,by simpa using hi⟩⟩ ?_ ?_ (by show nx<=nx+2;omega)
 rintro _ _ ⟨so,H,M,rfl,rfl,hr⟩;refine goN ?_;refine⟨.inr rfl,_,fH rfl fW,.iM (dL nm) out,⟨h,nx⟩,zF _,Xi (c:=dL nm) (xs:=out) (e:=92) (sz:=1) (K:=nx+1) (st:=so) uP (Nat.le_succ _) hr.vc hr.old hr.le (tm':=[.iM (dL nm) out]) ?_ ?_ (zF _),rfl,rfl⟩;exact congrArg (fun u=>[u]) (LN (c:=dL nm) (sz:=1) (fun _=>rfl) out (nx+1) 1 92 so);simp only[aF,aP,and_true];rw[Fs];intro c hc;obtain⟨a,ha,rfl⟩:=List.mem_map.1 hc;simp only[dL,pt,aF,aP,and_true];exact p.lt uP (hr.lt a ha);rintro(_ |m) _ _ ⟨t,o,so,H,M,J,rfl,ht,rfl,hr⟩;cases J;have hp:=hr.ph p uP;refine goN ?_;refine RS.w rfl (JK rfl rfl rfl (bi gM.h hr.vc)) ?_;refine goN ?_;refine dS rfl (fun h2=>?_) (fun h2=>?_)
 ·have kY:t<o.length:=by simpa using h2
  change cond (decide (t<o.length)) _ _=some out at J;rw[decide_eq_true kY]at J;obtain⟨q,hq,x,hx,J⟩:=cB J;obtain⟨⟨hl,CW⟩,J⟩:=cQ J;obtain⟨o2,Tc,J⟩:=aL J;have lH:aC o (t:Int)=some q:=by rw[aC,if_pos ⟨by omega,by omega⟩];simpa using hq
  have hv:mK ⟨H,M⟩ (nx+1) so=some ((o.map (dL nm)).flatten,92,1):=by simp[mK,hr.vc,B.bv]
  refine goN ?_;apply aR;refine goN ?_;refine RS.w rfl (fA rfl rfl (pS (dL nm) gM.h (bZ iC.h) (by decide) (fun _=>rfl) hv lH)) ?_;refine RS.w rfl (yG (dL nm) (pt nm) gK.h rfl (fun _=>rfl) rfl hr.vc lH) (aK rfl (ae hp hx hl) D7 ?_);refine goN ?_;refine gL (fun m tm X=>∃(j:Nat)(o1:Z Nat)(so:Nat)(H:Z (Nat×B))(M:Nat),m=(bW P.gen x).length-j/\j<=(bW P.gen x).length/\PY P.N P.gen n ((bW P.gen x).drop j) o1=some o2/\t<o1.length/\tm=fr 49 [(0,.ptr kp 0 0),(5,.map nx),(6,.vl (nx+1) so 0 o1.length),(7,.i6 t),(27,.iM (bX nm) (bW P.gen x)),(28,.i6 (bW P.gen x).length),(29,.i6 j)]/\X=⟨H,M⟩/\Cv kp kr st nm P h nx o1 nx (nx+1) so H M)
   (fun tm X=>∃(so:Nat)(H:Z (Nat×B))(M:Nat),tm=fr 49 [(0,.ptr kp 0 0),(5,.map nx),(6,.vl (nx+1) so 0 o2.length),(7,.i6 t)]/\t<o2.length/\X=⟨H,M⟩/\Cv kp kr st nm P h nx o2 nx (nx+1) so H M) (bW P.gen x).length
   ⟨0,o,so,H,M,rfl,Nat.zero_le _,Tc,kY,rfl,rfl,hr⟩ ?_ ?_ hr.le
  ·rintro _ _ ⟨so2,H2,M2,rfl,C_,rfl,hr2⟩;refine goN ?_;have kN:IntKind.i64.wrap ((t:Int)+1)=((t+1:Nat):Int):=by rw[oA (by omega) (by omega)];rfl
   refine⟨m,_,_,zN _,⟨t+1,o2,so2,H2,M2,J,rfl,C_,rfl,hr2⟩,hr2.le,Gh.sub ?_⟩;rw[<-kN];(repeat refine⟨rfl,?_⟩);exact trivial
  rintro _ _ _ ⟨j,o1,Ki,H1,M1,rfl,hj,cO,Sl,rfl,rfl,hr1⟩;have m9:=hr1.ph p uP;refine WPU.wf fun fJ _=>?_
  haveI:SuC M1 (M1+1):=⟨rfl⟩
  haveI:SuC (M1+1) (M1+2):=⟨rfl⟩
  refine goN ?_;refine dS rfl (fun h4=>?_) (fun h4=>?_)
  ·have gZ:j<(bW P.gen x).length:=by simpa using h4
   obtain⟨a,ha⟩:∃a,(bW P.gen x)[j]? = some a:=⟨_,List.getElem?_eq_getElem gZ⟩;have lH:aC (bW P.gen x) (j:Int)=some a:=by rw[aC,if_pos ⟨by omega,by omega⟩];simpa using ha
   have xQ:(bW P.gen x).drop j=a::(bW P.gen x).drop (j+1):=by rw[List.drop_eq_getElem_cons gZ];rw[List.getElem?_eq_getElem gZ]at ha;cases ha;rfl
   have kN:IntKind.i64.wrap ((j:Int)+1)=((j+1:Nat):Int):=by rw[oA (by omega) (by omega)];rfl
   rw[xQ]at cO;obtain⟨q1,AQ,cO⟩:=aL cO;have H7:=Zr AQ;have hH:∀(b:B),∀k c,gt H1 k=some c->gt ((M1,b)::H1) k=some c:=fun b k c hc=>by rw[jQ (fJ k c hc).1];exact hc
   have CU:Cv kp kr st nm P h nx o1 nx (nx+1) Ki ((M1,.row (bX nm a) 107)::H1) (M1+1):=⟨hH _ _ _ hr1.mp,hH _ _ _ hr1.vc,hr1.ks,hr1.ko,fun k hk=>by rw[jQ (Nat.lt_of_lt_of_le hk hr1.le)];exact hr1.old k hk,Nat.le_succ_of_le hr1.le,hr1.lt⟩;have ZP:=CU.ph p uP;refine goN ?_;apply aR;refine goN ?_;refine aW lH ?_;refine goN ?_;refine aK rfl (JS ZP n AQ) wB ?_;refine goN ?_;refine xV rfl (eT.plook tb_ok (zu:=.bool false) rfl F1.h gK.h (bZ lT.h) if4.h rfl (dH rfl) (dH rfl) CU.mp (ZP.row q1 H7) (Y' ZP.row o1 0 hr1.lt)) ?_;rintro _ _ ⟨rfl,rfl⟩;rw[A' p.inj H7 o1 0 hr1.lt];cases hc:o1.contains q1 with
   |true=>rw[hc]at cO;refine goN ?_;refine dS rfl (fun h5=>by cases h5) (fun h5=>?_);refine goN ?_;refine⟨(bW P.gen x).length-(j+1),_,_,by omega,⟨j+1,o1,Ki,_,M1+1,rfl,gZ,cO,Sl,rfl,rfl,CU⟩,CU.le,Gh.sub ?_⟩;rw[<-kN];(repeat refine⟨rfl,?_⟩);exact trivial|false=>
    rw[hc]at cO;obtain⟨hol1,cO⟩:=cQ cO;refine goN ?_;refine dS rfl (fun h5=>?_) (fun h5=>by cases h5);refine goN ?_;have uQ:nx+1<M1:=(fJ _ _ hr1.vc).1;refine RS.stepn rfl (eT.pins tb_ok (v:=.bool true) (.inl rfl) F1.h gK.h (bZ lT.h) (dH rfl) (dH rfl) (dH rfl) CU.mp (ZP.row q1 H7) (Y' ZP.row o1 0 hr1.lt) (by rw[A' p.inj H7 o1 0 hr1.lt,hc];rfl)) ?_;rintro _ _ ⟨rfl,rfl⟩;change RU _ _ _ _ _ (Sg.mk (ug ((M1,.row (bX nm a) 107)::H1) nx (.map ((EM nm 0 o1++[(nm q1,U.bool true,o1.length)]).map pE) (o1.length+1))) (M1+1)) _;refine goN ?_;refine cP ?_;have Tw:gt ((M1+1,.row [pt nm q1] 92)::ug ((M1,.row (bX nm a) 107)::H1) nx (.map ((EM nm 0 o1++[(nm q1,U.bool true,o1.length)]).map pE) (o1.length+1))) (nx+1)=some (.vec (o1.map (dL nm)).flatten 92 1 Ki):=by rw[aQ,if_neg (by omega),c7,if_neg (by omega)];exact CU.vc
    refine RS.w rfl (rN rfl rfl rfl rfl (C0 (dL nm) [q1] gM.h gM.h iC.h rfl (fun _=>rfl) Tw (E8 (dL nm) [q1] (q:=[pt nm q1]) (by simp[rowOf,aQ]) rfl rfl rfl) ⟨by simp;omega,by simp;omega⟩)) ?_;refine goN ?_;refine⟨(bW P.gen x).length-(j+1),_,_,by omega,⟨j+1,o1++[q1],Ki+1,_,M1+2,rfl,gZ,cO,by simp;omega,rfl,rfl,⟨?_,?_,zF _,Nat.le_succ _,fun k hk=>?_,by omega,?_⟩⟩,by show nx<=M1+2;omega,Gh.sub ?_⟩;rw[c7,if_neg (by omega)];show gt ((M1+1,_)::ug ((M1,_)::H1) nx _) nx=_;rw[aQ,if_neg (by omega),c7,if_pos rfl,CU.mp,z74];simp;rw[c7,if_pos rfl,Tw];rfl;rw[c7,if_neg (by omega)];show gt ((M1+1,_)::ug ((M1,_)::H1) nx _) k=_;rw[aQ,if_neg (by omega),c7,if_neg (by omega)];exact CU.old k hk;intro k hk;rcases yD.1 hk with hk |hk;exact hr1.lt k hk;simp at hk;subst hk;exact H7
    ·rw[<-kN];(repeat refine⟨rfl,?_⟩);exact trivial
  ·refine goN ?_;have gZ:j=(bW P.gen x).length:=by
    have:¬ (j:Int)<(bW P.gen x).length:=by simpa using h4
    omega
   subst gZ;rw[List.drop_length]at cO;obtain rfl:=sI cO;exact⟨_,_,⟨Ki,H1,M1,rfl,Sl,rfl,hr1⟩,hr1.le,Gh.sub (by((repeat refine⟨rfl,?_⟩);exact trivial))⟩
 ·refine goN ?_;have kY:t=o.length:=by have:¬ (t:Int)<o.length:=(by simpa using h2);omega
  change cond (decide (t<o.length)) _ _=some out at J;rw[decide_eq_false (by omega)]at J;obtain rfl:=sI J;exact⟨_,_,⟨so,H,M,rfl,rfl,hr⟩,hr.le,Gh.sub (by((repeat refine⟨rfl,?_⟩);exact trivial))⟩
end
section
variable{kp kr st:Nat}{nm:Nat->Nat}{P:PP}{h:Z (Nat×B)}{nx:Nat}
theorem PH.beq(p:PH kp kr st nm P h){i j:Nat}(hi:i<P.N.length)(hj:j<P.N.length):Nat.beq (nm i) (nm j)=Nat.beq i j:=by rw[beq_eq,beq_eq];by_cases e:i=j;simp[e];have:nm i≠nm j:=fun h=>e (p.inj i j hi hj h);simp[e,this]
theorem z3b(p:PH kp kr st nm P h){kx:Nat}(hk:gt h kx=some (.row [.ptr kp 0 0] 31))(n:Nat){a:dR}{r:Nat}(hr:rL P.N P.gen n a.to=some r)(ha:a.to<P.N.length):
  aV prog 107 (.agg (bX nm a)::[.ptr kx 0 0]) ⟨h,nx⟩ (fun u X'=>u=.bool (!Nat.beq r a.to)/\X'=⟨h,nx⟩):=by
 refine aV.wf fun hw _=>?_;have KS:=Zr hr
 haveI:SuC nx (nx+1):=⟨rfl⟩
 have hp:PH kp kr st nm P ((nx,.row (bX nm a) 107)::h):=p.more fun k b hb=>by rw[jQ (hw k b hb).1];exact hb
 haveI:eK ((nx,.row (bX nm a) 107)::h) kx (.row [.ptr kp 0 0] 31):=⟨by rw[jQ (hw _ _ hk).1];exact hk⟩
 have hnr:=hp.node r _ (List.getElem?_eq_getElem KS);have hna:=hp.node a.to _ (List.getElem?_eq_getElem ha);refine eO 11 TG ?_;refine goN ?_;refine WPU.any tb_ok (lF:=[(3,.bool (if BinOp.neq=BinOp.eql then Nat.beq (nm r) (nm a.to)else !Nat.beq (nm r) (nm a.to)))]) (XF:=⟨(nx,.row (bX nm a) 107)::h,nx+1⟩) (fun hq=>?_) ?_
 ·repeat' first
   |exact trivial
   |refine⟨rfl,?_⟩
   |refine And.intro ?_ ?_
   |(show uc _ _ _ _ _ _ _ _ _;refine Exists.intro _ ⟨rfl,rfl,rfl,.inl ⟨_,_,opm,_,_,Gh.refl _ _ _,Nat.le_succ _,?_⟩⟩)
   |(show uc _ _ _ _ _ _ _ _ _;refine Exists.intro _ ⟨rfl,rfl,rfl,.inr (.inl ⟨_,_,_,FY rfl rfl wB rfl rfl rfl,JS hp n hr,?_⟩)⟩;rintro _ _ ⟨rfl,rfl⟩;refine⟨_,_,Gh.refl _ _ _,Nat.le_succ _,?_⟩)
   |(show uc _ _ _ _ _ _ _ _ _;refine Exists.intro _ ⟨rfl,rfl,rfl,.inr (.inr ⟨_,eT.peq tb_ok rfl (.inr rfl) gK.h (bZ lT.h) (dH rfl) (dH rfl) hnr hna,?_⟩)⟩;rintro _ _ ⟨rfl,rfl⟩;refine⟨_,_,Gh.refl _ _ _,Nat.le_succ _,?_⟩)
  all_goals exact⟨_,⟨(nx,.row (bX nm a) 107)::h,nx+1⟩,Gh.sub (l':=[(3,.bool (if BinOp.neq=BinOp.eql then Nat.beq (nm r) (nm a.to)else !Nat.beq (nm r) (nm a.to)))]) ⟨rfl,trivial⟩,Nat.le_succ _,hq⟩
 refine goN ?_;exact uj hw rfl rfl rfl (fun k hk=>jQ hk) (Nat.le_succ _) (by simp[aP]) ⟨by rw[if_neg (by decide),hp.beq KS ha],rfl⟩
theorem z3m{v11:Type}(q:v11->BQ)(l:Z v11):decide (y3 q l>=0)=l.any q:=by
 unfold y3;cases hf:l.findIdx? q with
 |none=>
  rw[List.findIdx?_eq_none_iff]at hf;have:l.any q=false:=by rw[List.any_eq_false];intro x hx;simp[hf x hx]
  rw[this];rfl
 |some i=>rw[List.findIdx?_eq_some_iff_getElem]at hf;obtain⟨hi,h1,_⟩:=hf;have:l.any q=true:=List.any_eq_true.2 ⟨l[i],List.getElem_mem hi,h1⟩;rw[this];simp
theorem z6w{X:Sg}{nm:Nat->Nat}{l:Z dR}{g:FuncId}{fn:Func}{cap:Z U}{q:dR->BQ}(Aj:tb.fn g=some fn)(hb:fn.body.isSome=true)(hl:l.length<=1000000)(hg:∀a∈l,aV prog g (.agg (bX nm a)::cap) X (fun u X'=>u=.bool (q a)/\X'=X)):
  aV prog 106 [.iM (bX nm) l,.fn (.func g) [] cap] X (fun u X'=>u=.bool (l.any q)/\X'=X):=by refine eO 9 TH ?_;refine goN ?_;refine aK rfl (z5f Aj hb hl hg) I9 ?_;refine goN ?_;exact AC rfl rfl rfl (zF _) ⟨by rw[z3m],rfl⟩
end
def xF(g:Int)(x:PN):BQ:=cond (x.chA != g) false x.ch
def L2(N:Z PN)(g:Int)(n:Nat)(a:dR):BQ:=match rL N g n a.to with
 |some r=>!Nat.beq r a.to|none=>false
def Dp(N:Z PN)(g:Int)(n:Nat)(l:Z dR):BQ:=l.all fun a=>(rL N g n a.to).isSome
def XZ(g:Int)(n:Nat):Z Nat->Z PN->I (Z PN)
 |[],N=>some N|p::l,N=>a8 N[p]? fun x=>cond (Dp N g n x.arcs) (aG (x.arcs.length<=1000000) (XZ g n l (N.set p { x with ch:=gE g x != x.kind||(decide (((g8 g x).length:Int)>0)||x.arcs.any (L2 N g n)),chA:=g }))) none
def G9(g:Int)(N:Z PN):Z dR->I BQ
 |[]=>some false|a::l=>a8 N[a.to]? fun y=>cond (xF g y) (some true) (G9 g N l)
def IS(g:Int):Z Nat->BQ->Z PN->I (BQ×Z PN)
 |[],ag,N=>some (ag,N)|p::l,ag,N=>a8 N[p]? fun x=>cond (xF g x) (IS g l ag N) (aG (x.arcs.length<=1000000) (a8 (G9 g N x.arcs) fun c=>cond c (IS g l true (N.set p { x with ch:=true,chA:=g })) (IS g l ag N)))
def XY(g:Int)(l:Z Nat):Nat->Z PN->I (Z PN)
 |0,_=>none|m+1,N=>a8 (IS g l false N) fun r=>cond r.1 (XY g l m r.2) (some r.2)
def Kt(g:Int)(n:Nat)(l:Z Nat)(N:Z PN):I (Z PN):=aG (l.length<=1000000) (a8 (XZ g n l N) fun N1=>XY g l n N1)
section
variable{kp kr st:Nat}{nm:Nat->Nat}{P:PP}{h:Z (Nat×B)}{nx:Nat}
structure sY(kp kr st:Nat)(nm:Nat->Nat)(P:PP)(h:Z (Nat×B))(nx:Nat)(N:Z PN)(H:Z (Nat×B))(M:Nat):Prop where
 ph:PH kp kr st nm { P with N:=N } H
 bx:gt H nx=some (.row [.ptr kp 0 0] 31)
 fr:∀k,k<nx->(∀i,i<P.N.length->nm i≠k)->gt H k=gt h k
 le:nx<M
 len:N.length=P.N.length
theorem sY.put{N:Z PN}{H:Z (Nat×B)}{M:Nat}(m:sY kp kr st nm P h nx N H M){i:Nat}{x:PN}(y:PN)(hx:N[i]? = some x)(hy:jK P.N.length y):sY kp kr st nm P h nx (N.set i y) (ug H (nm i) (.row (nM nm y) 103)) M:=by have hi:i<N.length:=(zG.1 hx).1;refine⟨m.ph.put y hx (by show jK N.length y;rw[m.len];exact hy),?_,fun k hk hn=>?_,m.le,by simp[m.len]⟩;rw[c7,if_neg fun e=>?_];exact m.bx;have:=m.bx;rw[<-e,m.ph.node i x hx]at this;simp at this;rw[c7,if_neg (hn i (by rw[<-m.len];exact hi))];exact m.fr k hk hn
theorem sY.wf{N:Z PN}{H:Z (Nat×B)}{M:Nat}(m:sY kp kr st nm P h nx N H M){i:Nat}{x:PN}(hx:N[i]? = some x):jK P.N.length x:=by have:=m.ph.wf x (zX hx);rw[show({ P with N:=N }:PP).N.length=P.N.length from m.len]at this;exact this
theorem sY.more{N:Z PN}{H:Z (Nat×B)}{M:Nat}(m:sY kp kr st nm P h nx N H M)(hw:nN ⟨H,M⟩)(b:B):sY kp kr st nm P h nx N ((M,b)::H) (M+1):=
 ⟨m.ph.more fun k c hc=>by rw[jQ (hw k c hc).1];exact hc,by rw[jQ m.le];exact m.bx,fun k hk hn=>by rw[jQ (Nat.lt_trans hk m.le)];exact m.fr k hk hn,Nat.lt_succ_of_lt m.le,m.len⟩
theorem sY.gb{N:Z PN}{H:Z (Nat×B)}{M:Nat}(m:sY kp kr st nm P h nx N H M):eK H nx (.row [.ptr kp 0 0] 31):=⟨m.bx⟩
theorem z7i(p:PH kp kr st nm P h)(n:Nat){l:Z Nat}(hl:∀i∈l,i<P.N.length){N':Z PN}(J:Kt P.gen n l P.N=some N'):
  aV prog 68 [.ptr kp 0 0,.iM (dL nm) l] ⟨h,nx⟩ (fun u X'=>∃H M,u=.tup []/\X'=⟨H,M⟩/\PH kp kr st nm { P with N:=N' } H/\N'.length=P.N.length/\nx<=M/\∀k,k<nx->(∀i,i<P.N.length->nm i≠k)->gt H k=gt h k):=by
 refine aV.wf fun uP _=>?_;obtain⟨qE,J⟩:=cQ J;obtain⟨N1,h1,h2⟩:=aL J
 haveI:SuC nx (nx+1):=⟨rfl⟩
 refine eO 120 Vm ?_;refine goN ?_;have Tf:sY kp kr st nm P h nx P.N ((nx,.row [.ptr kp 0 0] 31)::h) (nx+1):=⟨p.more fun k b hb=>by rw[jQ (uP k b hb).1];exact hb,by simp[aQ],fun k hk _=>jQ hk,zN _,rfl⟩;refine gL (fun m tm X=>∃(t:Nat)(N:Z PN)(H:Z (Nat×B))(M:Nat),m=l.length-t/\t<=l.length/\XZ P.gen n (l.drop t) N=some N1/\tm=fr 120 [(1,.iM (dL nm) l),(2,.ptr nx 0 0),(18,.iM (dL nm) l),(19,.i6 l.length),(20,.i6 t)]/\X=⟨H,M⟩/\sY kp kr st nm P h nx N H M)
  (fun tm X=>∃(H:Z (Nat×B))(M:Nat),tm=fr 120 [(1,.iM (dL nm) l),(2,.ptr nx 0 0)]/\X=⟨H,M⟩/\sY kp kr st nm P h nx N1 H M) l.length
  ⟨0,P.N,_,nx+1,rfl,Nat.zero_le _,h1,rfl,rfl,Tf⟩ ?_ ?_ (Nat.le_succ _)
 ·rintro _ _ ⟨H,M,rfl,rfl,hm⟩;refine goN ?_;refine gL (fun m tm X=>∃(ag:BQ)(N:Z PN)(H:Z (Nat×B))(M:Nat),cond ag (XY P.gen l m N) (some N)=some N'/\tm=fr 120 [(1,.iM (dL nm) l),(2,.ptr nx 0 0),(9,.bool ag)]/\X=⟨H,M⟩/\sY kp kr st nm P h nx N H M)
   (fun tm X=>∃(H:Z (Nat×B))(M:Nat),tm=fr 120 []/\X=⟨H,M⟩/\sY kp kr st nm P h nx N' H M) n
   ⟨true,N1,H,M,h2,rfl,rfl,hm⟩ ?_ ?_ (Nat.le_of_lt hm.le)
  rintro _ _ ⟨H,M,rfl,rfl,hm⟩;exact⟨.inl rfl,[],rfl,.tup [],_,Nat.le_of_lt hm.le,Gh.refl _ _ _,H,M,rfl,rfl,hm.ph,hm.len,Nat.le_of_lt hm.le,hm.fr⟩;rintro m _ _ ⟨ag,N,H,M,xL,rfl,rfl,hm⟩;refine goN ?_;refine dS rfl (fun h3=>?_) (fun h3=>?_)
  ·subst h3;cases m with
   |zero=>cases xL|succ m=>
   obtain⟨r,hr,xL⟩:=aL (show a8 (IS P.gen l false N) (fun r=>cond r.1 (XY P.gen l m r.2) (some r.2))=some N' from xL);refine goN ?_;apply aR;refine goN ?_;refine gL (fun m tm X=>∃(t:Nat)(ag:BQ)(N:Z PN)(H:Z (Nat×B))(M:Nat),m=l.length-t/\t<=l.length/\IS P.gen (l.drop t) ag N=some r/\tm=fr 120 [(1,.iM (dL nm) l),(2,.ptr nx 0 0),(9,.bool ag),(68,.iM (dL nm) l),(69,.i6 l.length),(70,.i6 t)]/\X=⟨H,M⟩/\sY kp kr st nm P h nx N H M)
    (fun tm X=>∃(H:Z (Nat×B))(M:Nat),tm=fr 120 [(1,.iM (dL nm) l),(2,.ptr nx 0 0),(9,.bool r.1)]/\X=⟨H,M⟩/\sY kp kr st nm P h nx r.2 H M) l.length
    ⟨0,false,N,H,M,rfl,Nat.zero_le _,hr,rfl,rfl,hm⟩ ?_ ?_ (Nat.le_of_lt hm.le)
   ·rintro _ _ ⟨H,M,rfl,rfl,hm⟩;refine goN ?_;exact⟨m,_,_,zN _,⟨r.1,r.2,H,M,xL,rfl,rfl,hm⟩,Nat.le_of_lt hm.le,Gh.sub (by((repeat refine⟨rfl,?_⟩);exact trivial))⟩
   rintro _ _ _ ⟨t,ag,N,H,M,rfl,ht,cO,rfl,rfl,hm⟩;refine goN ?_;refine dS rfl (fun h4=>?_) (fun h4=>?_)
   ·have eQ:t<l.length:=by simpa using h4
    obtain⟨q,hq⟩:∃a,l[t]? = some a:=⟨_,List.getElem?_eq_getElem eQ⟩;have lH:aC l (t:Int)=some q:=by rw[aC,if_pos ⟨by omega,by omega⟩];simpa using hq
    have xQ:l.drop t=q::l.drop (t+1):=by rw[List.drop_eq_getElem_cons eQ];rw[List.getElem?_eq_getElem eQ]at hq;cases hq;rfl
    have kN:IntKind.i64.wrap ((t:Int)+1)=((t+1:Nat):Int):=by rw[oA (by omega) (by omega)];rfl
    rw[xQ]at cO;obtain⟨x,hx,cO⟩:=aL cO;have fE:=hm.wf hx
    haveI:=hm.ph.gp
    haveI:=hm.ph.gn hx
    haveI:=hm.gb
    refine goN ?_;apply aR;refine goN ?_;refine aW lH ?_;refine goN ?_;refine dE [] ?_;refine cU ?_;refine dV rfl (fun s=>Az s x.ch x.chA P.gen) OE ?_;refine cU ?_;refine bN ⟨by kernel_rfl,trivial,?_⟩;refine goN ?_;refine dS rfl (fun h5=>?_) (fun h5=>?_)
    ·rw[show xF P.gen x=true from h5]at cO;refine goN ?_;refine⟨l.length-(t+1),_,_,by omega,⟨t+1,ag,N,H,M,rfl,eQ,cO,rfl,rfl,hm⟩,Nat.le_of_lt hm.le,Gh.sub ?_⟩;rw[<-kN];(repeat refine⟨rfl,?_⟩);exact trivial
    rw[show xF P.gen x=false from h5]at cO;obtain⟨oF,cO⟩:=cQ cO;obtain⟨c,hc,cO⟩:=aL cO;have W_:IS P.gen (l.drop (t+1)) (cond c true ag) (cond c (N.set q { x with ch:=true,chA:=P.gen }) N)=some r:=by cases c<;>exact cO
    refine goN ?_;refine gL (fun m tm X=>∃(j:Nat)(H:Z (Nat×B))(M:Nat),m=x.arcs.length-j/\j<=x.arcs.length/\G9 P.gen N (x.arcs.drop j)=some c/\tm=fr 120 [(1,.iM (dL nm) l),(2,.ptr nx 0 0),(9,.bool ag),(11,pt nm q),(68,.iM (dL nm) l),(69,.i6 l.length),(70,.i6 t),(90,.iM (bX nm) x.arcs),(91,.i6 x.arcs.length),(92,.i6 j)]/\X=⟨H,M⟩/\sY kp kr st nm P h nx N H M)
     (fun tm X=>∃(H:Z (Nat×B))(M:Nat),tm=fr 120 [(1,.iM (dL nm) l),(2,.ptr nx 0 0),(9,.bool (cond c true ag)),(68,.iM (dL nm) l),(69,.i6 l.length),(70,.i6 t)]/\X=⟨H,M⟩/\sY kp kr st nm P h nx (cond c (N.set q { x with ch:=true,chA:=P.gen }) N) H M) x.arcs.length
     ⟨0,H,M,rfl,Nat.zero_le _,hc,rfl,rfl,hm⟩ ?_ ?_ (Nat.le_of_lt hm.le)
    ·rintro _ _ ⟨H,M,rfl,rfl,hm⟩;refine goN ?_;refine⟨l.length-(t+1),_,_,by omega,⟨t+1,_,_,H,M,rfl,eQ,W_,rfl,rfl,hm⟩,Nat.le_of_lt hm.le,Gh.sub ?_⟩;rw[<-kN];(repeat refine⟨rfl,?_⟩);exact trivial
    rintro _ _ _ ⟨j,H,M,rfl,hj,hc,rfl,rfl,hm⟩;refine WPU.wf fun fJ _=>?_
    haveI:SuC M (M+1):=⟨rfl⟩
    refine goN ?_;refine dS rfl (fun h6=>?_) (fun h6=>?_)
    ·have gZ:j<x.arcs.length:=by simpa using h6
     obtain⟨a,ha⟩:∃a,x.arcs[j]? = some a:=⟨_,List.getElem?_eq_getElem gZ⟩;have yW:aC x.arcs (j:Int)=some a:=by rw[aC,if_pos ⟨by omega,by omega⟩];simpa using ha
     have HG:x.arcs.drop j=a::x.arcs.drop (j+1):=by rw[List.drop_eq_getElem_cons gZ];rw[List.getElem?_eq_getElem gZ]at ha;cases ha;rfl
     have yQ:IntKind.i64.wrap ((j:Int)+1)=((j+1:Nat):Int):=by rw[oA (by omega) (by omega)];rfl
     rw[HG]at hc;obtain⟨y,hy,hc⟩:=aL hc;have tP:=hm.more fJ (.row (bX nm a) 107)
     haveI:=tP.ph.gp
     haveI:=tP.ph.gn hx
     haveI:=tP.ph.gn hy
     haveI:=tP.gb
     refine goN ?_;apply aR;refine goN ?_;refine aW yW ?_;refine goN ?_;refine dE [] ?_;refine cU ?_;refine dV rfl (fun s=>Az s y.ch y.chA P.gen) OE ?_;refine cU ?_;refine bN ⟨by kernel_rfl,trivial,?_⟩;refine goN ?_;refine dS rfl (fun h7=>?_) (fun h7=>?_)
     ·rw[show xF P.gen y=true from h7]at hc;obtain rfl:=sI hc;refine goN ?_;exact⟨_,_,⟨_,M+1,rfl,rfl,tP.put { x with ch:=true,chA:=P.gen } hx ⟨fE.arcs,fE.fw,fE.more,fE.cp⟩⟩,Nat.le_of_lt tP.le,Gh.sub (by((repeat refine⟨rfl,?_⟩);exact trivial))⟩
     ·rw[show xF P.gen y=false from h7]at hc;refine goN ?_;refine⟨x.arcs.length-(j+1),_,_,by omega,⟨j+1,_,M+1,rfl,gZ,hc,rfl,rfl,tP⟩,Nat.le_of_lt tP.le,Gh.sub ?_⟩;rw[<-yQ];(repeat refine⟨rfl,?_⟩);exact trivial
    ·refine goN ?_;have gZ:j=x.arcs.length:=by
      have:¬ (j:Int)<x.arcs.length:=by simpa using h6
      omega
     subst gZ;rw[List.drop_length]at hc;obtain rfl:=sI hc;exact⟨_,_,⟨H,M,rfl,rfl,hm⟩,Nat.le_of_lt hm.le,Gh.sub (by((repeat refine⟨rfl,?_⟩);exact trivial))⟩
   ·refine goN ?_;have eQ:t=l.length:=by
     have:¬ (t:Int)<l.length:=by simpa using h4
     omega
    subst eQ;rw[List.drop_length]at cO;obtain rfl:=sI cO;exact⟨_,_,⟨H,M,rfl,rfl,hm⟩,Nat.le_of_lt hm.le,Gh.sub (by((repeat refine⟨rfl,?_⟩);exact trivial))⟩
  subst h3;obtain rfl:=sI xL;refine goN ?_;exact⟨_,_,⟨H,M,rfl,rfl,hm⟩,Nat.le_of_lt hm.le,Gh.sub trivial⟩
 ·rintro _ _ _ ⟨t,N,H,M,rfl,ht,cO,rfl,rfl,hm⟩;refine goN ?_;refine dS rfl (fun h4=>?_) (fun h4=>?_)
  ·have eQ:t<l.length:=by simpa using h4
   obtain⟨q,hq⟩:∃a,l[t]? = some a:=⟨_,List.getElem?_eq_getElem eQ⟩;have lH:aC l (t:Int)=some q:=by rw[aC,if_pos ⟨by omega,by omega⟩];simpa using hq
   have xQ:l.drop t=q::l.drop (t+1):=by rw[List.drop_eq_getElem_cons eQ];rw[List.getElem?_eq_getElem eQ]at hq;cases hq;rfl
   have kN:IntKind.i64.wrap ((t:Int)+1)=((t+1:Nat):Int):=by rw[oA (by omega) (by omega)];rfl
   rw[xQ]at cO;obtain⟨x,hx,cO⟩:=aL cO;obtain⟨cC,cO⟩:Dp N P.gen n x.arcs=true/\_:=by rcases hc:Dp N P.gen n x.arcs with _|_;rw[hc]at cO;cases cO;rw[hc]at cO;exact⟨rfl,cO⟩
   obtain⟨oF,cO⟩:=cQ cO;have fE:=hm.wf hx
   haveI:=hm.ph.gp
   haveI:=hm.ph.gn hx
   haveI:=hm.gb
   refine goN ?_;apply aR;refine goN ?_;refine aW lH ?_;refine goN ?_;refine dE [] ?_;refine cU ?_;refine dV rfl (fun s=>OB s nm x.more x.moA P.gen) wE ?_;refine cU ?_;refine bN ⟨by kernel_rfl,trivial,?_⟩;refine goN ?_;refine RS.w rfl (Yi rfl rfl) ?_;refine aK rfl (z6w (q:=L2 N P.gen n) TG rfl oF (fun a ha=>?_)) TH ?_;have h6:=List.all_eq_true.1 cC a ha;obtain⟨r,hr⟩:=Option.isSome_iff_exists.1 h6;have h7:=z3b (nx:=M) hm.ph hm.bx n hr (by show a.to<N.length;rw[hm.len];exact fE.arcs a ha);have h8:L2 N P.gen n a= !Nat.beq r a.to:=by simp only[L2,hr]
   rw[h8];exact h7;refine goN ?_;have Y?:∀{b:BQ},(gE P.gen x != x.kind||(decide (((g8 P.gen x).length:Int)>0)||x.arcs.any (L2 N P.gen n)))=b->sY kp kr st nm P h nx (N.set q { x with ch:=b,chA:=P.gen }) (ug H (nm q) (.row (nM nm { x with ch:=b,chA:=P.gen }) 103)) M/\XZ P.gen n (l.drop (t+1)) (N.set q { x with ch:=b,chA:=P.gen })=some N1:=fun{b} hb=>⟨hm.put _ hx ⟨fE.arcs,fE.fw,fE.more,fE.cp⟩,by rw[<-hb];exact cO⟩;cases Um:gE P.gen x != x.kind with
   |true=>obtain⟨g1,g2⟩:=Y? (b:=true) (by rw[Um];rfl);refine dE [] ?_;refine cU ?_;refine RD.call rfl (g9 rfl w9 rfl).2 (Mf hm.ph hx) rfl rfl ?_;refine cU ?_;refine wO ?_;refine bN ⟨by kernel_rfl,trivial,?_⟩;refine goN ?_;refine⟨l.length-(t+1),_,_,by omega,⟨t+1,_,_,M,rfl,eQ,g2,rfl,rfl,g1⟩,Nat.le_of_lt hm.le,Gh.sub ?_⟩;rw[<-kN];(repeat refine⟨rfl,?_⟩);exact trivial
   |false=>
    cases O5:decide (((cond (x.moA != P.gen) [] x.more).length:Int)>0)with
    |true=>obtain⟨g1,g2⟩:=Y? (b:=true) (by rw[Um,show decide (((g8 P.gen x).length:Int)>0)=true from O5];rfl);refine dE [] ?_;refine cU ?_;refine RD.call rfl (g9 rfl w9 rfl).2 (Mf hm.ph hx) rfl rfl ?_;refine cU ?_;refine wO ?_;refine bN ⟨by kernel_rfl,trivial,?_⟩;refine goN ?_;refine⟨l.length-(t+1),_,_,by omega,⟨t+1,_,_,M,rfl,eQ,g2,rfl,rfl,g1⟩,Nat.le_of_lt hm.le,Gh.sub ?_⟩;rw[<-kN];(repeat refine⟨rfl,?_⟩);exact trivial
    |false=>obtain⟨g1,g2⟩:=Y? (b:=x.arcs.any (L2 N P.gen n)) (by rw[Um,show decide (((g8 P.gen x).length:Int)>0)=false from O5];rfl);refine dE [] ?_;refine cU ?_;refine RD.call rfl (g9 rfl w9 rfl).2 (Mf hm.ph hx) rfl rfl ?_;refine cU ?_;refine wO ?_;refine bN ⟨by kernel_rfl,trivial,?_⟩;refine goN ?_;refine⟨l.length-(t+1),_,_,by omega,⟨t+1,_,_,M,rfl,eQ,g2,rfl,rfl,g1⟩,Nat.le_of_lt hm.le,Gh.sub ?_⟩;rw[<-kN];(repeat refine⟨rfl,?_⟩);exact trivial
  ·refine goN ?_;have eQ:t=l.length:=by
    have:¬ (t:Int)<l.length:=by simpa using h4
    omega
   subst eQ;rw[List.drop_length]at cO;obtain rfl:=sI cO;exact⟨_,_,⟨H,M,rfl,rfl,hm⟩,Nat.le_of_lt hm.le,Gh.sub (by((repeat refine⟨rfl,?_⟩);exact trivial))⟩
end
end Go.Proofs
