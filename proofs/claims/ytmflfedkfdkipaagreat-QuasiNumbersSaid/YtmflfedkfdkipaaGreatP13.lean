import Derived.LaidEqlPtr
import Derived.Test.YtmflfedkfdkipaaGreatP12
set_option linter.all false
namespace Go.Vx
open Go Go.Rx
section
variable{P:Program}{T:Tb}(hT:eZ P T)
include hT
theorem cy{tp te:TypeId}{sz:Nat}(hd:T.und tp=some (.pointer te))(hs:bJ T te=some (sz+1))(d:Nat){a b:Addr}{ca cb:Array Value}{ta tb:TypeId}(w:World)(ha:w.heap[a.block]? = some (.cells ca ta (0,0)))(hb:w.heap[b.block]? = some (.cells cb tb (0,0))):
  (Op.equalIn (d+1) tp (.pointer (some a)) (.pointer (some b))).run P w=.ok (decide (a=b)) w:=by
 by_cases e:a=b;subst e;simp[Op.equalIn,dH hT w hd,i4 hT w hs,run_sameAddr_same];simp[Op.equalIn,dH hT w hd,i4 hT w hs,run_sameAddr_other w e ha hb,e]
theorem Xb{tp te:TypeId}{sz:Nat}(hd:T.und tp=some (.pointer te))(hs:bJ T te=some (sz+1)){a b:Addr}{ca cb:Array Value}{ta tb:TypeId}(w:World)(ha:w.heap[a.block]? = some (.cells ca ta (0,0)))(hb:w.heap[b.block]? = some (.cells cb tb (0,0))):
  (Op.equal tp (.pointer (some a)) (.pointer (some b))).run P w=.ok (decide (a=b)) w:=cy hT hd hs 9999 w ha hb
end
variable{x:Cx}
variable{k:Nat}
variable{l:List U}
variable{e:TypeId}
theorem row_at(hx:eQ x){m:Nm}{w:World}(hf:Fits m x.s w){i:Nat}(hg:gt x.σ.h k=some (.row l e))(hi:x.ρ k=some i):m.sh i=0/\∃c,w.heap[m.blk i]? = some (.cells c e (0,0)):=by
 obtain⟨_,_,j,l',hj,hl,_⟩:=hx.ok k _ hg;rw[hi]at hj;cases hj;have:=hf.ok i _ hl;simp only[nX,pN]at this;exact⟨this.1,_,this.2⟩
variable{e':TypeId}
theorem Uw(hx:eQ x){m:Nm}{w:World}(hf:Fits m x.s w){i k' i':Nat}{l':List U}(hg:gt x.σ.h k=some (.row l e))(hi:x.ρ k=some i)(hg':gt x.σ.h k'=some (.row l' e'))(hi':x.ρ k'=some i'):(m.blk i=m.blk i')↔k=k':=by
 constructor;intro h;obtain⟨_,_,j,r,hj,hl,_⟩:=hx.ok k _ hg;rw[hi]at hj;cases hj;obtain⟨_,_,j',r',hj',hl',_⟩:=hx.ok k' _ hg';rw[hi']at hj';cases hj';by_cases e:i=i';subst e;exact hx.inj k k' _ _ i hg hg' hi hi';exact absurd h (hf.inj i i' _ _ hl hl' e rfl);rintro rfl;rw[hi]at hi';cases hi';rfl
theorem UW{v:Value}(hg:gt x.σ.h k=some (.row l e))(hr:aA x (.ptr k 0 0) v):∃i,x.ρ k=some i/\v=.pointer (some ⟨i,0,none⟩):=by
 simp only[aA]at hr;obtain⟨_,h2⟩:=hr.2.2 _ hg;exact h2 rfl
section
variable{C:PG}{T:Tb}(hT:eZ C.prog T)
include hT
theorem dM.peq{σ:Sg}{tm:List U}{o:Oper}{b:BinOp}{t ty te:TypeId}{sz k':Nat}{xo yo:Operand}{l':List U}(ho:o.op=.binOp b t xo yo ty)(hb:b=.eql\/b=.neq)(hd:T.und t=some (.pointer te))(hs:bJ T te=some (sz+1))(hx:bD tm xo=some (.ptr k 0 0))(hy:bD tm yo=some (.ptr k' 0 0))(hg:gt σ.h k=some (.row l e))(hg':gt σ.h k'=some (.row l' e')):
  dM C σ tm o (fun u σ'=>u=.bool (if b=.eql then Nat.beq k k' else !Nat.beq k k')/\σ'=σ):=fun F x tv m w a next Q hxσ st hG hn ro hro=>by
 subst hxσ;obtain⟨vx,ex,rx⟩:=dP st.e hx;obtain⟨vy,ey,ry⟩:=dP st.e hy;obtain⟨i,hi,rfl⟩:=UW hg rx;obtain⟨i',hi',rfl⟩:=UW hg' ry;have hf:=st.fits.fits;obtain⟨s1,c1,h1⟩:=row_at st.h hf hg hi;obtain⟨s2,c2,h2⟩:=row_at st.h hf hg' hi';have hdec:decide ((⟨m.blk i,m.sh i+0,none⟩:Addr)=⟨m.blk i',m.sh i'+0,none⟩)=Nat.beq k k':=by rw[s1,s2,beq_eq];have:=Uw st.h hf hg hi hg' hi';by_cases e:k=k';rw[decide_eq_true e,this.2 e];simp;have h3:m.blk i≠m.blk i':=fun h=>e (this.1 h);rw[decide_eq_false e];simp[h3]
 have hax:a.eval xo=.pointer (some ⟨m.blk i,m.sh i+0,none⟩):=by have he:=(st.act.evalO ex).at;simp only[ren]at he;exact he.symm
 have hay:a.eval yo=.pointer (some ⟨m.blk i',m.sh i'+0,none⟩):=by have he:=(st.act.evalO ey).at;simp only[ren]at he;exact he.symm
 have hp:=Xb hT hd hs (a:=⟨m.blk i,m.sh i+0,none⟩) (b:=⟨m.blk i',m.sh i'+0,none⟩) w h1 h2;rw[hdec]at hp;simp only[Nat.add_zero]at hp;have hrun:(execOp a.eval o).run C.prog w=.ok (.value (.bool (if b=.eql then Nat.beq k k' else !Nat.beq k k'))) w:=by simp only[execOp,ho,hax,hay];rcases hb with rfl |rfl;simp[eqGuard,binOp,hp];simp[eqGuard,binOp,hp]
 refine oM (by rw[ho];intro c hc;cases hc) ?_;unfold Oper.wp;rw[hrun];have hadv:=bA.refl st.fits;exact hn _ x (rQ tv o.dst (.bool (if b=.eql then Nat.beq k k' else !Nat.beq k k'))) m w _ ⟨rfl,rfl⟩ ⟨st.h,st.fr,BA st.e (by simp[aA]) _,st.fits,st.act.put (oO fun _=>by simp[ren]) o.dst⟩ hadv (Ke.refl _ _) (zF _) (wY _ _ _)
end
def pE(e:Nat×U×Nat):ME:=⟨.ptr e.1 0 0,e.2.1,e.2.2⟩
def o7(k:Nat):List (Nat×U×Nat)->Option U
 |[]=>none|e::es=>cond (Nat.beq e.1 k) (some e.2.1) (o7 k es)
def isRow(h:List (Nat×B))(k:Nat):Prop:=∃l e,gt h k=some (.row l e)
theorem jG.uncons{e:ME}{es:List ME}{vs:List MapEntry}(h:jG x (e::es) vs):∃v vs',vs=v::vs'/\aA x e.key v.key/\aA x e.val v.val/\v.born=e.born/\jG x es vs':=by
 obtain⟨h1,h2⟩:=h;rcases vs with _|⟨v,vs⟩;simp at h1;obtain⟨v',e1,e2,e3,e4⟩:=h2 0 e rfl;simp at e1;subst e1;refine⟨v,vs,rfl,e2,e3,e4,by simpa using h1,fun i e he=>?_⟩;have:=h2 (i+1) e (by simpa using he);simpa using this
section
variable{P:Program}{T:Tb}(hT:eZ P T){x:Cx}(hx:eQ x){m:Nm}{w:World}(hf:Fits m x.s w){kt te:TypeId}{sz:Nat}(hd:T.und kt=some (.pointer te))(hs:bJ T te=some (sz+1))
include hT hx hf hd hs
theorem qt{k i0:Nat}(hk:isRow x.σ.h k)(hi:x.ρ k=some i0):∀(es:List (Nat×U×Nat))(vs:List MapEntry)(i:Nat),(∀e∈es,isRow x.σ.h e.1)->jG x (es.map pE) vs->
  ∃r,(Instr.findAsking kt (.pointer (some ⟨m.blk i0,m.sh i0,none⟩)) (vs.map (cJ m)) i).run P w=.ok r w/\(o7 k es=none->r=none)/\∀u,o7 k es=some u->∃j v,v∈vs/\r=some (j,ren m v.val)/\aA x u v.val
 |[],vs,i,_,hr=>by
  have:vs=[]:=by have:=hr.1;simpa using this.symm
  subst this;exact⟨none,by simp[Instr.findAsking],fun _=>rfl,fun u hu=>by simp[o7]at hu⟩
 |e::es,vs,i,he,hr=>by
  obtain⟨v,vs,rfl,kn,hv1,_,hr'⟩:=jG.uncons hr;obtain⟨l,t,hg⟩:=hk;obtain⟨l',t',hg'⟩:=he e (by simp);obtain⟨i1,y5,m4⟩:=UW hg' kn;obtain⟨s1,c1,h1⟩:=row_at hx hf hg hi;obtain⟨s2,c2,h2⟩:=row_at hx hf hg' y5;have hq:=Xb hT hd hs (a:=⟨m.blk i0,m.sh i0,none⟩) (b:=⟨m.blk i1,m.sh i1+0,none⟩) w h1 h2;have hdec:decide ((⟨m.blk i0,m.sh i0,none⟩:Addr)=⟨m.blk i1,m.sh i1+0,none⟩)=Nat.beq e.1 k:=by rw[s1,s2,beq_eq];have:=Uw hx hf hg hi hg' y5;by_cases hek:k=e.1;rw[decide_eq_true (show e.1=k from hek.symm),this.2 hek];simp;have h3:m.blk i0≠m.blk i1:=fun h=>hek (this.1 h);rw[decide_eq_false (show ¬ e.1=k from fun h=>hek h.symm)];simp[h3]
  rw[hdec]at hq;obtain⟨r,g1,g2,g3⟩:=qt ⟨l,t,hg⟩ hi es vs (i+1) (fun e he'=>he e (by simp[he'])) hr';have hkey:ren m v.key=.pointer (some ⟨m.blk i1,m.sh i1+0,none⟩):=by simp[m4,ren]
  cases hb:Nat.beq e.1 k with|true=>rw[hb]at hq;refine⟨some (i,ren m v.val),?_,fun h=>?_,fun u hu=>?_⟩;simp only[zQ,Instr.findAsking,cJ,hkey,zK,hq,zJ,if_true,zL];simp[o7,hb]at h;simp only[o7,hb,zC,zA]at hu;subst hu;exact⟨i,v,by simp,rfl,hv1⟩|false=>rw[hb]at hq;refine⟨r,?_,fun h=>?_,fun u hu=>?_⟩;simp only[zQ,Instr.findAsking,cJ,hkey,zK,hq,zJ,Bool.false_eq_true,if_false];exact g1;simp only[o7,hb,zD]at h;exact g2 h;simp only[o7,hb,zD]at hu;obtain⟨j,v',q1,q2,q3⟩:=g3 u hu;exact⟨j,v',by simp[q1],q2,q3⟩
theorem zt{i0:Nat}(hk:isRow x.σ.h k)(hi:x.ρ k=some i0)(es:List (Nat×U×Nat))(vs:List MapEntry)(he:∀e∈es,isRow x.σ.h e.1)(hr:jG x (es.map pE) vs):
  ∃r,(Instr.findKey kt (.pointer (some ⟨m.blk i0,m.sh i0,none⟩)) (vs.map (cJ m))).run P w=.ok r w/\(o7 k es=none->r=none)/\∀u,o7 k es=some u->∃j v,v∈vs/\r=some (j,ren m v.val)/\aA x u v.val:=by
 obtain⟨r,h1,h2,h3⟩:=qt hT hx hf hd hs hk hi es vs 0 he hr;refine⟨r,?_,h2,h3⟩;unfold Instr.findKey;simp only[zK,dH hT w hd,zJ];cases vs with
 |nil=>simp only[List.map_nil,Instr.findAsking,zL,Result.ok.injEq,and_true]at h1;subst h1;simp[Instr.findNow]|cons v vs=>simp only[zQ,Instr.findNow,Instr.sameNow];exact h1
omit hx hf hs in
theorem Qj(b:Bool)(n:Nat)(v:Value):(Instr.checkKey b (n+1) kt v).run P w=.ok () w:=by
 simp[Instr.checkKey,dH hT w hd]
end
section
variable{C:PG}{T:Tb}(hT:eZ C.prog T)
include hT
variable{σ:Sg}
variable{tm:List U}
variable{o:Oper}
variable{t:TypeId}
variable{sz:Nat}
variable{xo:Operand}
theorem dM.plook{kt et te:TypeId}{r a' b' cl:Nat}{z:Value}{zu:U}{ko:Operand}{ok:Bool}{es:List (Nat×U×Nat)}(ho:o.op=.lookup t xo ko ok)(hd:T.und t=some (.map kt et))(hk:T.und kt=some (.pointer te))(hs:bJ T te=some (sz+1))
  (hz:T.inf et=some (a',b',z)) (hzu:eT z=some zu) (hx:bD tm xo=some (.map r)) (hy:bD tm ko=some (.ptr k 0 0)) (hg:gt σ.h r=some (.map (es.map pE) cl)) (hrow:isRow σ.h k) (hes:∀e∈es,isRow σ.h e.1):
  dM C σ tm o (fun u σ'=>u=(match o7 k es with |some v=>cond ok (.tup [v,.bool true]) v |none=>cond ok (.tup [zu,.bool false]) zu)/\σ'=σ):=fun F x tv m w a next Q hxσ st hG hn ro hro=>by
 subst hxσ;obtain⟨vx,ex,rx⟩:=dP st.e hx;obtain⟨vy,ey,ry⟩:=dP st.e hy;obtain⟨l0,e0,GZ⟩:=hrow;obtain⟨i0,Ta,rfl⟩:=UW GZ ry;obtain⟨i,es',h1,rfl,h3,h4,hown⟩:=PV (m:=.map r) st.h rx hg;have hf:=st.fits.fits;have hax:a.eval xo=.map (some (m.blk i)):=by have he:=(st.act.evalO ex).at;simp only[ren]at he;exact he.symm
 have hay:a.eval ko=.pointer (some ⟨m.blk i0,m.sh i0,none⟩):=by have he:=(st.act.evalO ey).at;simp only[ren,Nat.add_zero]at he;exact he.symm
 have hob:w.heap[m.blk i]? = some (.map (es'.map (cJ m)).toArray cl):=hf.ok i _ h3;have hst:=R4 st.fits hown;obtain⟨r,g1,g2,g3⟩:=zt hT st.h hf hk hs ⟨l0,e0,GZ⟩ Ta es es' hes h4;obtain⟨oa,SF⟩:=tM hT m w hz;have hzr:=(B7 _ _ hzu).2 x;have key:∃v,(execOp a.eval o).run C.prog w=.ok (.value (ren m v)) w/\(∀m',aG x.s.nx m m'->ren m' v=ren m v)/\aA x (match o7 k es with |some v=>cond ok (.tup [v,.bool true]) v |none=>cond ok (.tup [zu,.bool false]) zu) v:=by
  cases hp:o7 k es with
  |none=>have:=g2 hp;subst this;refine⟨cond ok (.tuple #[z,.bool false]) z,?_,fun m' ha=>?_,?_⟩;simp only[execOp,ho,hax,hay,Instr.lookup,zK,dH hT w hd,zJ,Rx.run_getObj_map hob,Qj hT hk,g1,zL,oa];cases ok;simp[SF];simp[ren,aD,SF];have q1:=(tM hT m' w hz).2;cases ok;simp only[zD];rw[q1,SF];simp only[zC,ren,nH,aD];rw[q1,SF];cases ok;exact hzr;simp only[zC,aA];exact⟨_,rfl,by simp[bN,aA];exact hzr,rfl⟩|some u=>
   obtain⟨j,v,q1,rfl,q3⟩:=g3 u hp;have hsv:∀m',aG x.s.nx m m'->ren m' v.val=ren m v.val:=fun m' ha=>by have h5:=hst m' ha;have h6:=List.map_inj_left.1 h5 v q1;simp only[cJ,MapEntry.mk.injEq]at h6;exact h6.2.1
   refine⟨cond ok (.tuple #[v.val,.bool true]) v.val,?_,fun m' ha=>?_,?_⟩;simp only[execOp,ho,hax,hay,Instr.lookup,zK,dH hT w hd,zJ,Rx.run_getObj_map hob,Qj hT hk,g1,zL];cases ok;simp;simp[ren,aD];cases ok;exact hsv m' ha;simp only[zC,ren,nH,aD];rw[hsv m' ha];cases ok;exact q3;simp only[zC,aA];exact⟨_,rfl,by simp[bN,aA];exact q3,rfl⟩
 obtain⟨v,k1,k2,k3⟩:=key;refine oM (by rw[ho];intro c hc;cases hc) ?_;unfold Oper.wp;rw[k1];exact hn _ x (rQ tv o.dst v) m w _ ⟨rfl,rfl⟩ ⟨st.h,st.fr,BA st.e k3 _,st.fits,st.act.put k2 o.dst⟩ (bA.refl st.fits) (Ke.refl _ _) (zF _) (wY _ _ _)
theorem dM.pins{kt et te:TypeId}{r cl:Nat}{v:U}{ko vo:Operand}{es:List (Nat×U×Nat)}(ho:o.op=.mapUpdate t xo ko vo\/o.op=.insert t xo ko vo)(hd:T.und t=some (.map kt et))(hk:T.und kt=some (.pointer te))(hs:bJ T te=some (sz+1))
  (hx:bD tm xo=some (.map r)) (hy:bD tm ko=some (.ptr k 0 0)) (hv:bD tm vo=some v) (hg:gt σ.h r=some (.map (es.map pE) cl)) (hrow:isRow σ.h k) (hes:∀e∈es,isRow σ.h e.1) (hp:o7 k es=none):
  dM C σ tm o (fun u σ'=>u=.junk/\σ'=⟨ug σ.h r (.map ((es++[(k,v,cl)]).map pE) (cl+1)),σ.nx⟩):=fun F x tv m w a next Q hxσ st hG hn ro hro=>by
 subst hxσ;obtain⟨vx,ex,rx⟩:=dP st.e hx;obtain⟨vy,ey,ry⟩:=dP st.e hy;obtain⟨vv,ev,rv⟩:=dP st.e hv;have pc:=ry;obtain⟨l0,e0,GZ⟩:=hrow;obtain⟨i0,Ta,rfl⟩:=UW GZ ry;obtain⟨i,es',h1,rfl,h3,h4,hown⟩:=PV (m:=.map r) st.h rx hg;have hf:=st.fits.fits;have hax:a.eval xo=.map (some (m.blk i)):=by have he:=(st.act.evalO ex).at;simp only[ren]at he;exact he.symm
 have hay:a.eval ko=.pointer (some ⟨m.blk i0,m.sh i0,none⟩):=by have he:=(st.act.evalO ey).at;simp only[ren,Nat.add_zero]at he;exact he.symm
 have hob:w.heap[m.blk i]? = some (.map (es'.map (cJ m)).toArray cl):=hf.ok i _ h3;have hst:=R4 st.fits hown;obtain⟨r',g1,g2,_⟩:=zt hT st.h hf hk hs ⟨l0,e0,GZ⟩ Ta es es' hes h4;have:=g2 hp;subst this;obtain⟨w₁,e1,hadv⟩:=FM (P:=C.prog) st.fits hown (es':=es'++[{ key:=.pointer (some ⟨i0,0,none⟩),val:=vv,born:=cl }]) (cl':=cl+1) (ces:=es'.map (cJ m)++[{ key:=.pointer (some ⟨m.blk i0,m.sh i0,none⟩),val:=a.eval vo,born:=cl }]) (fun m' ha=>by have q1:=(st.act.evalO ey) m' ha;have q2:=(st.act.evalO ev) m' ha;rw[hay]at q1;simp only[List.map_append,zQ,List.map_nil,hst m' ha,cJ,q1,q2]);have hrun:(execOp a.eval o).run C.prog w=.ok .skip w₁:=by
  have hr1:(Instr.mapUpdate t (a.eval xo) (a.eval ko) (a.eval vo)).run C.prog w=.ok () w₁:=by simp only[hax,hay,Instr.mapUpdate,zK,dH hT w hd,zJ,Rx.run_getObj_map hob,Qj hT hk,g1];rw[<-e1];simp
  rcases ho with ho |ho;simp only[execOp,ho,zK,hr1,zJ,zL];simp only[execOp,ho,zK,hr1,zJ,zL]
 have hout:=FP st.h hg h1 h3 (h4.snoc (k:=.ptr k 0 0) (v:=v) pc rv cl) (cl1:=cl+1);refine oM (by rcases ho with ho |ho<;>(rw[ho];intro c hc;cases hc)) ?_;unfold Oper.wp;rw[hrun];have em:(es.map pE++[⟨.ptr k 0 0,v,cl⟩])=(es++[(k,v,cl)]).map pE:=by simp[pE]
 rw[em]at hout;exact hn _ ⟨x.ρ,D1 x.σ r ((es++[(k,v,cl)]).map pE) (cl+1),B8 x.s i (es'++[{ key:=.pointer (some ⟨i0,0,none⟩),val:=vv,born:=cl }]) (cl+1)⟩ (rQ tv o.dst undef) m w₁ _ ⟨rfl,rfl⟩
  ⟨hout.h,hout.fr F st.fr,BA (hout.mo.ke.E st.e.bel st.e) (by simp[aA]) _,hadv.fits,(st.act.ext hadv.agree hadv.nx).put (oO fun _=>by simp[undef,ren,aD]) o.dst⟩ hadv hout.mo.ke hout.mo.nx (wY _ _ _)
theorem dM.cut0{K st off:Nat}{lo:Operand}(ho:o.op=.slice t xo (some lo) none none)(hd:T.und t=some (.slice e))(hs:bJ T e=some (sz+1))(hx:bD tm xo=some (.vl K st off 1))(hl:bD tm lo=some (.int .i64 1))
  (hg:gt σ.h K=some (.vec l e' (sz+1) st)) (hlen:(off+1)*(sz+1)<=l.length):
  dM C σ tm o (fun u σ'=>(u=.vl K (st+1) 0 0/\σ'=⟨ug σ.h K (.vec [] e' (sz+1) (st+1)),σ.nx⟩)\/(u=.isl true []/\σ'=σ)):=fun F x tv m w a next Q hxσ st' hG hn ro hro=>by
 subst hxσ;obtain⟨vx,ex,rx⟩:=dP st'.e hx;obtain⟨vl,el,rl⟩:=dP st'.e hl;simp only[aA]at rl;subst rl;simp only[aA]at rx;obtain⟨_,hK,h0⟩:=rx;obtain⟨l2,e2,Wp,hb,hvl⟩:=(h0 _ hg).2 rfl;cases hb;obtain⟨_,hBk⟩:=st'.h.ok K _ hg;obtain⟨_,_,hB⟩:=hBk;rcases hB with⟨Jb,_⟩|⟨i,l',hρ,hlk,hE⟩;rw[Jb]at hlen;simp at hlen;rw[hρ]at hvl;simp only[wD]at hvl;rcases hvl with⟨_,hbad,_⟩|rfl;omega;have hf:=st'.fits.fits;obtain⟨pre,rest,hheap,hpre,hcap⟩:=(hf.ok i _ hlk:pN m i _ e' w (sz+1+2));have hll:l'.length=l.length:=hE.2.symm;have ZE:1<=m.cp i-off:=by
  have h1:(off+1)*(sz+1)<=m.cp i*(sz+1):=by omega
  have:=Nat.le_of_mul_le_mul_right h1 (by omega);omega
 have hcapx:bF m i (b7+off)=m.cp i-off:=by
  have h:¬ b7+off<b7:=by omega
  simp[bF,aW,h]
 have hax:a.eval xo=.slice (some ⟨m.blk i,m.sh i+off*(sz+1),none⟩) 1 (m.cp i-off):=by have he:=(st'.act.evalO ex).at;simp only[ren,hcapx]at he;exact he.symm
 have hal:a.eval lo=.int .i64 1:=by have he:=(st'.act.evalO el).at;simp only[ren]at he;exact he.symm
 have hb:dN 1 1 (some (.int .i64 1)) none none=some (1,1,1):=by decide
 obtain⟨b1,_⟩:=BL (P:=C.prog) (isS:=true) m w hb ZE;simp only[zM,Option.map_none,ren,Option.isSome_none,Bool.false_eq_true,if_false]at b1;have hrun:(execOp a.eval o).run C.prog w=.ok (.value (.slice (if m.cp i-off=1 then some ⟨m.blk i,m.sh i+off*(sz+1),none⟩else some ⟨m.blk i,m.sh i+off*(sz+1)+1*(sz+1),none⟩) 0 (m.cp i-off-1))) w:=by simp only[execOp,ho,hax,zM,Option.map_none,hal,Instr.sliceAt,zK,dH hT w hd,zJ,Instr.slice,b1,i4 hT w hs,zL,o3]
 refine oM (by rw[ho];intro c hc;cases hc) ?_;unfold Oper.wp;rw[hrun];have hinx:=st'.h.bd i _ hlk;by_cases hC:m.cp i-off=1;rw[if_pos hC,hC];exact hn (.isl true []) x (rQ tv o.dst (.slice (some ⟨i,off*(sz+1),none⟩) 0 0)) m w _ (.inr ⟨rfl,rfl⟩) ⟨st'.h,st'.fr,BA st'.e (by simp only[aA];exact .inr ⟨i,off*(sz+1),0,rfl,(fun _=>⟨rfl,by simp[b7]⟩),.inl trivial⟩) _,st'.fits,st'.act.put (fun m' ha=>by obtain⟨q1,q2,_⟩:=ha i hinx;simp[ren,q1,q2,bF,b7]) o.dst⟩ (bA.refl st'.fits) (Ke.refl _ _) (zF _) (wY _ _ _);rw[if_neg hC];have hadv:bA m x.s w (m.set x.s.nx (m.blk i) (m.sh i+off*(sz+1)+1*(sz+1)) (m.cp i-off-1)) ⟨(x.s.nx,.inl ([],e',sz+1+2))::rm x.s.h i,x.s.nx+1⟩ w:=bA.rename st'.fits hlk rfl _ _ (fun _ _=>rfl) rfl rfl rfl rfl (zF _) fun m' ha=>by
  obtain⟨mW,sQ,E8⟩:=ha x.s.nx (zN _);obtain⟨e1,e2,e3⟩:=pR m x.s.nx (m.blk i) (m.sh i+off*(sz+1)+1*(sz+1)) (m.cp i-off-1);have hlen2:(pre++aD m l'++rest).length=m.sh i+m.cp i*(sz+1):=by simp[hpre];omega
  have hmul:m.cp i*(sz+1)=off*(sz+1)+1*(sz+1)+(m.cp i-off-1)*(sz+1):=by rw[<-Nat.add_mul,<-Nat.add_mul];congr 1;omega
  refine⟨(pre++aD m l'++rest).take (m.sh i+off*(sz+1)+1*(sz+1)),(pre++aD m l'++rest).drop (m.sh i+off*(sz+1)+1*(sz+1)),?_,?_,?_⟩;rw[mW,e1,hheap];simp[aD];rw[sQ,e2,List.length_take,hlen2];omega;rw[E8,e3,List.length_drop,hlen2];simp only[zS];omega
 have hvec:=V7 st'.h hg (l1:=[]) (some x.s.nx) ⟨(x.s.nx,.inl ([],e',sz+1+2))::rm x.s.h i,x.s.nx+1⟩ (fun j b hj hne=>by
   have h1:x.s.nx≠j:=by have:=st'.h.bd j b hj;omega
   have h2:i≠j:=fun h=>hne (by rw[hρ,h]);simp only[iD,h1,if_false,PE,h2];exact hj)
  (fun j hj=>by cases hj;exact .inr (zF _))
  (fun j b hj=>by simp only[iD]at hj;by_cases h1:x.s.nx=j;show j<x.s.nx+1;omega;simp only[h1,if_false,PE]at hj;by_cases h2:i=j;simp[h2]at hj;simp only[h2,if_false]at hj;have:=st'.h.bd j b hj;show j<x.s.nx+1;omega)
  rfl (fun y _ _=>.inr ⟨x.s.nx,[],rfl,by simp[iD],aQ.nil _⟩)
 exact hn (.vl K (st+1) 0 0) ⟨hJ x.ρ K (some x.s.nx),⟨ug x.σ.h K (.vec [] e' (sz+1) (st+1)),x.σ.nx⟩,⟨(x.s.nx,.inl ([],e',sz+1+2))::rm x.s.h i,x.s.nx+1⟩⟩ (rQ tv o.dst (.slice (some ⟨x.s.nx,0,none⟩) 0 b7)) _ w _ (.inl ⟨rfl,rfl⟩)
  ⟨hvec.h,hvec.fr F st'.fr,BA (hvec.mo.ke.E st'.e.bel st'.e) (UV st'.h hg rfl (.inr (by simp))) _,hadv.fits,(st'.act.ext hadv.agree hadv.nx).put (DB (zN _) fun m' ha=>by rw[KZ];obtain⟨_,_,e3⟩:=pR m x.s.nx (m.blk i) (m.sh i+off*(sz+1)+1*(sz+1)) (m.cp i-off-1);exact(ha x.s.nx (zN _)).2.2.trans e3) o.dst⟩ hadv hvec.mo.ke hvec.mo.nx (wY _ _ _)
end
def PK(p:Nat->Prop):List Nat->Prop
 |[]=>True|i::l=>p i/\PK p l
theorem PK.mem{p:Nat->Prop}:∀{l:List Nat},PK p l->∀i∈l,p i
 |j::l,h,i,hi=>by rcases zI.1 hi with rfl |hi;exact h.1;exact PK.mem h.2 i hi
def Jw(C:PG)(T:Tb)(ops:Array Oper)(n0 n:Nat)(l:List (Nat×U))(σ:Sg)(K:List (Nat×U)->Sg->Prop)(i:Nat): Prop :=
  ∃o,nth ops.toList i=some o/\bO ops.toList (fr n l) o=some true/\Ji n o.dst=true/\ ((∃u s1,aV T σ (fr n l) o.op=some (u,s1)/\∃l' σ',Gh n0 (fr n (IJ l o.dst u)) s1 (fr n l') σ'/\n0<=σ'.nx/\K l' σ')\/ (∃f args R,fQ T (fr n l) o.op=some (f,args)/\aO C.prog f args σ R/\∀u s1,R u s1->∃l' σ',Gh n0 (fr n (IJ l o.dst u)) s1 (fr n l') σ'/\n0<=σ'.nx/\K l' σ')\/ (∃R,dM C σ (fr n l) o R/\∀u s1,R u s1->∃l' σ',Gh n0 (fr n (IJ l o.dst u)) s1 (fr n l') σ'/\n0<=σ'.nx/\K l' σ'))
def qG:List Bool->Nat->Bool
 |[],_=>false|b::_,0=>b
 |_::l,k+1=>qG l k
theorem VG:∀(d:List Bool)(k:Nat),qG d k=d.toArray.getD k false
 |[],k=>by simp[qG,Array.getD]
 |b::d,0=>by simp[qG,Array.getD]
 |b::d,k+1=>by rw[qG,VG d k];simp[Array.getD]
def okA(d:List Bool):List Edge->Bool
 |[]=>true|e::l=>cond (Region.binds .any e) (cond (qG d e.on) (okA d l) false) (okA d l)
theorem Nn(d:List Bool):∀(l:List Edge),okA d l=true↔∀e∈l,Region.binds .any e=true->d.toArray.getD e.on false=true
 |[]=>by simp[okA]
 |e::l=>by have ih:=Nn d l;rw[okA];rcases hb:Region.binds .any e with _|_;rw[zD,ih];exact⟨fun h x hx hb'=>by rcases zI.1 hx with rfl |hx;(rw[hb]at hb';cases hb');exact h x hx hb',fun h x hx=>h x (List.mem_cons_of_mem _ hx)⟩;rw[zC];rcases hn:qG d e.on with _|_;rw[zD];exact⟨fun h=>(by cases h),fun h=>by have:=h e (by simp) hb;rw[<-VG,hn]at this;cases this⟩;rw[zC,ih];exact⟨fun h x hx hb'=>by rcases zI.1 hx with rfl |hx;(rw[<-VG];exact hn);exact h x hx hb',fun h x hx=>h x (List.mem_cons_of_mem _ hx)⟩
def w8(d:List Bool):Nat->List Oper->List Nat
 |_,[]=>[]|i,o::os=>cond (qG d i) (w8 d (i+1) os) (cond (okA d o.after.toList) (i::w8 d (i+1) os) (w8 d (i+1) os))
theorem Xi(d:List Bool): ∀(os:List Oper)(i j:Nat),j∈w8 d i os↔∃k o,j=i+k/\os[k]? = some o/\qG d j=false/\okA d o.after.toList=true
  |[],i,j=> by simp[w8]
  |o::os,i,j=> by
    have ih:=Xi d os (i+1) j;have tl:(∃k o',j=i+1+k/\os[k]? = some o'/\qG d j=false/\okA d o'.after.toList=true)->∃k o',j=i+k/\(o::os)[k]? = some o'/\qG d j=false/\okA d o'.after.toList=true:=fun⟨k,o',h1,h2,h3⟩=> ⟨k+1,o',by omega,by simpa using h2,h3⟩;have ht:(∃k o',j=i+k/\(o::os)[k]? = some o'/\qG d j=false/\okA d o'.after.toList=true)->(j=i/\qG d i=false/\okA d o.after.toList=true)\/∃k o',j=i+1+k/\os[k]? = some o'/\qG d j=false/\okA d o'.after.toList=true:=fun⟨k,o',h1,h2,h3,h4⟩=> by
      cases k with
      | zero => simp at h2; subst h2; have : j = i := by omega
                subst this;exact .inl ⟨rfl,h3,h4⟩
      |succ k=> exact .inr ⟨k,o',by omega,by simpa using h2,h3,h4⟩
    rw[w8];cases hn:qG d i with
    |true=> rw[zC,ih];exact⟨tl,fun h=> (ht h).elim (fun q=> by rw[hn]at q;cases q.2.1) id⟩|false=>rw[zD];rcases hk:okA d o.after.toList with _|_;rw[zD,ih];exact⟨tl,fun h=> (ht h).elim (fun q=> by rw[hk]at q;cases q.2.2) id⟩;rw[zC,zI,ih];exact⟨fun h=> h.elim (fun q=> ⟨0,o,by omega,rfl,by rw[q];exact hn,hk⟩) tl,fun h=> (ht h).imp (·.1) id⟩
theorem Nb(ops:Array Oper)(d:List Bool)(hd:d.length=ops.size)(i:Nat):i∈Region.ready .any ops d.toArray↔i∈w8 d 0 ops.toList:=by
 rw[Xi];unfold Region.ready;rw[List.mem_filter,List.mem_range];constructor;rintro⟨hi,h⟩;have ho:ops[i]? = some ops[i]:=by simp[hi]
 simp only[ho,zM,Option.getD_some,Bool.and_eq_true,Bool.not_eq_true',Array.all_eq_true_iff_forall_mem,Bool.or_eq_true]at h;refine⟨i,ops[i],by omega,by simpa using ho,?_,(Nn d _).2 fun e he hb=>?_⟩;rw[VG];have h1:=h.1;have hl:i<d.length:=by omega
 simpa[Array.getD,hl]using h1;rcases h.2 e (by simpa using he)with h1 |h1;simp[hb]at h1;exact h1;rintro⟨k,o,rfl,h1,h2,h3⟩;rw[Nat.zero_add]at h2 ⊢;have ho:ops[k]? = some o:=by simpa using h1
 have hi:k<ops.size:=(Array.getElem?_eq_some_iff.1 ho).1;refine⟨hi,?_⟩;simp only[ho,zM,Option.getD_some,Bool.and_eq_true,Bool.not_eq_true',Array.all_eq_true_iff_forall_mem,Bool.or_eq_true];refine⟨?_,fun e he=>?_⟩;rw[VG]at h2;have hl:k<d.length:=by omega
 simpa[Array.getD,hl]using h2;rcases hb:Region.binds .any e with _|_;exact .inl rfl;exact .inr ((Nn d _).1 h3 e (by simpa using he) hb)
def RI(C:PG)(T:Tb)(ops:Array Oper)(n0 n:Nat)(Q:Exit->List U->Sg->Prop):Nat->List Bool->List (Nat×U)->Sg->Prop
 |0,d,l,σ=>w8 d 0 ops.toList=[]/\∃l' σ',Gh n0 (fr n l) σ (fr n l') σ'/\n0<=σ'.nx/\Q .normal (fr n l') σ'|k+1,d,l,σ=>(w8 d 0 ops.toList).isEmpty=false/\PK (fun j=>Jw C T ops n0 n l σ (RI C T ops n0 n Q k (d.set j true)) j) (w8 d 0 ops.toList)
section
variable{C:PG}{T:Tb}(hT:eZ C.prog T){n0 n:Nat}{ops:Array Oper}{Q:Exit->List U->Sg->Prop}
include hT
theorem TZ{ro:Option Nat}(hro:C.ro ro){F:Nat->i5->Prop}{x0:Cx}{m0:Nm}{w0:World}{E:Exit->Act->World->Prop}{df:List Deferred}(C5:IF C n0 x0 m0 w0)(hf0:dS m0 x0.s w0)(hQ:∀y tm tv m w a,Q .normal tm y.σ->St F y tm tv m w a->bA m0 x0.s w0 m y.s w->Ke n0 x0 y->n0<=y.σ.nx->a.defers=df->E .normal a w):
  ∀(k:Nat)(d:List Bool)(a:Act)(w:World)(m:Nm)(l:List (Nat×U))(tv:List Value)(x:Cx),d.length=ops.size->RI C T ops n0 n Q k d l x.σ->St F x (fr n l) tv m w a->bA m0 x0.s w0 m x.s w->Ke n0 x0 x->n0<=x.σ.nx->a.defers=df->wpAnyIn (qI ro) 0 C.prog .any ops E k d.toArray a w:=by
 intro k;induction k with
 |zero=>intro d a w m l tv x hd h st hadv hke hnx hdf;obtain⟨h1,l',σ',hgh,hn',hq⟩:=h;obtain⟨z,g1,g2,g3,g4,g5,g6⟩:=hgh F x tv rfl st.h st.fr st.e;have ga:=g1 m w st.fits;refine⟨?_,hQ z _ tv m w a (by rw[g2];exact hq) ⟨g3,g4,g5,ga.fits,st.act.ext ga.agree ga.nx⟩ (hadv.trans ga) (hke.trans g6) (by rw[g2];exact hn') hdf⟩;refine List.eq_nil_iff_forall_not_mem.2 fun i hi=>?_;rw[Nb ops d hd,h1]at hi;cases hi
 |succ k ih=>
  intro d a w m l tv x hdl h st hadv hke hnx hdf;obtain⟨hr,he⟩:=h;refine⟨fun hnil=>?_,fun j hj=>?_⟩;exfalso;rcases hq:w8 d 0 ops.toList with _|⟨i,q⟩;rw[hq]at hr;cases hr;have:=(Nb ops d hdl i).2 (by rw[hq];simp);rw[hnil]at this;cases this;rw[Nb ops d hdl]at hj;obtain⟨o,ho,hw,hd,hs⟩:=PK.mem he j hj;have ho:ops[j]? = some o:=by rw[eR]at ho;simpa using ho
  rw[show d.toArray.setIfInBounds j true=(d.set j true).toArray by simp];have fin:∀y u tv' aF w₁ aS,(∃l' σ',Gh n0 (fr n (IJ l o.dst u)) y.σ (fr n l') σ'/\n0<=σ'.nx/\RI C T ops n0 n Q k (d.set j true) l' σ')->St F y (cQ (fr n l) o.dst u) tv' aF w₁ aS->bA m x.s w aF y.s w₁->Ke x.σ.nx x y->aS.defers=a.defers->wpAnyIn (qI ro) 0 C.prog .any ops E k (d.set j true).toArray aS w₁:=fun y u tv' aF w₁ aS ⟨l',σ',hgh,hn',hK⟩ st' hadv' hke' hdf'=>by rw[mP u hd]at st';obtain⟨z,g1,g2,g3,g4,g5,g6⟩:=hgh F y tv' rfl st'.h st'.fr st'.e;have ga:=g1 aF w₁ st'.fits;exact ih _ aS w₁ aF l' tv' z (by simpa using hdl) (by rw[g2];exact hK) ⟨g3,g4,g5,ga.fits,st'.act.ext ga.agree ga.nx⟩ (hadv.trans (hadv'.trans ga)) (hke.trans ((hke'.le hnx).trans g6)) (by rw[g2];exact hn') (hdf'.trans hdf)
  unfold wpOpIn;simp only[ho];rw[Pg (st.act m (aG.refl _ _)) ops o,wW st.e hw];simp only[if_true];rcases hs with⟨u,s1,h1,h2⟩|⟨f,args,R,h1,h2,h3⟩|⟨R,h1,h3⟩;exact oM (FJ h1) (st.op hT o h1 fun y tv' aF w₁ aS e1 st' hadv' hke' hnx' hdf'=>fin y u tv' aF w₁ aS (by rw[e1];exact h2) st' hadv' hke' hdf');exact oM (Eb h1) (st.call hT o h1 h2 fun y u tv' aF w₁ aS hR st' hadv' hke' hnx' hdf'=>fin y u tv' aF w₁ aS (h3 u _ hR) st' hadv' hke' hdf');exact h1 F x tv m w a _ _ rfl st ⟨Nat.le_trans C5.nb hnx,(C5.adv hf0 hadv hke).g⟩ (fun u y tv' aF w₁ aS hR st' hadv' hke' hnx' hdf'=>fin y u tv' aF w₁ aS (h3 u _ hR) st' hadv' hke' hdf') ro hro
theorem WPU.any{id:Nat}{l lF:List (Nat×U)}{σ σF:Sg}(h:Q .normal (fr n lF) σF->RI C T ops n0 n Q ops.size (List.replicate ops.size false) l σ)(J:Q .normal (fr n lF) σF):WPU C n0 (.region id ops true) (fr n l) σ Q:=fun hn F x tv m w a b0 hx st hG hd ro hro=>by
 refine wpIn_region_any hT.mixed ?_;rw[show(Array.replicate ops.size false)=(List.replicate ops.size false).toArray by simp];refine TZ hT (ro:=ro) hro (n0:=n0) (F:=F) (x0:=x) (m0:=m) (w0:=w) (df:=a.defers) hG st.fits (fun y tm' tv' m' w' a' hq h2 h3 h4 h5 h6=>⟨y,tm',tv',m',hq,h2,h3,h4,h5,by rw[h6];exact hd.adv st.fits h3⟩) ops.size _ a _ m l tv x (by simp) (hx ▸ h J) ⟨st.h,st.fr,st.e,(bA.draw _ st.fits).fits,st.act⟩ (bA.draw _ st.fits) (Ke.refl _ _) (hx ▸ hn) rfl
end
def jA(σ:Sg):Prop:=∀k b,gt σ.h k=some b->k<σ.nx/\BelB σ.nx b
theorem eQ.wf{x:Cx}(h:eQ x):jA x.σ:=fun k b hg=>⟨(h.ok k b hg).1,(h.ok k b hg).2.belB⟩
theorem aO.wf{P:Program}{f:FuncId}{args:List U}{σ:Sg}{Q:U->Sg->Prop}(h:jA σ->aE σ.nx args->aO P f args σ Q):aO P f args σ Q:=fun F x vs m w cargs hx hh hfr he hfit hc=>h (hx ▸ hh.wf) (hx ▸ he.bel) F x vs m w cargs hx hh hfr he hfit hc
variable{N:Nat}
variable{tm:List U}
variable{H:List (Nat×B)}
variable{σ:Sg}
theorem Gh.back{n0:Nat}(hw:jA σ)(hs:∀k,k<σ.nx->gt H k=gt σ.h k)(hN:σ.nx<=N)(hb:aE σ.nx tm)(h0:n0<=σ.nx):Gh n0 tm ⟨H,N⟩ tm σ:=by
 have h1:∀k,gt (Vx.cut σ.nx H) k=gt σ.h k:=fun k=>by rw[Q1];by_cases hk:k<σ.nx;rw[if_pos hk,hs k hk];rw[if_neg hk];rcases hg:gt σ.h k with _|b;rfl;exact absurd (hw k b hg).1 hk
 have h2:Gh n0 tm ⟨H,N⟩ tm ⟨Vx.cut σ.nx H,σ.nx⟩:=Gh.cutG (σ:=⟨H,N⟩) h0 hN hb fun k b hg=>by rw[h1]at hg;exact(hw k b hg).2
 exact h2.trans (Gh.same (σ:=⟨Vx.cut σ.nx H,σ.nx⟩) σ.h fun k=>(h1 k).symm)
section
variable{T:Tb}{n:Nat}{l:List (Nat×U)}{rs:List ResultVar}
variable{u:U}
variable{R:U->Sg->Prop}
theorem Y0{us:List U}(hw:jA σ)(hr:gD T ⟨H,N⟩ (fr n l) rs=some us)(hu:i9 us=u)(hs:∀k,k<σ.nx->gt H k=gt σ.h k)(hN:σ.nx<=N)(hb:aJ σ.nx u)(hR:R u σ):
  (Exit.ret=.normal\/Exit.ret=.ret)/\∃l',gD T ⟨H,N⟩ (fr n l) rs=some l'/\∃u' aN,σ.nx<=aN.nx/\Gh σ.nx [i9 l'] ⟨H,N⟩ [u'] aN/\R u' aN :=
 ⟨.inr rfl,us,hr,u,σ,zF _,by subst hu;exact Gh.back hw hs hN (by simp only[aE,and_true];exact hb) (zF _),hR⟩
variable{jD:Sg}
theorem XZ{us:List U}(hr:gD T σ (fr n l) rs=some us)(hu:i9 us=u)(hN:jD.nx<=σ.nx)(hR:R u σ):
  (Exit.ret=.normal\/Exit.ret=.ret)/\∃l',gD T σ (fr n l) rs=some l'/\∃u' aN,jD.nx<=aN.nx/\Gh jD.nx [i9 l'] σ [u'] aN/\R u' aN :=
 ⟨.inr rfl,us,hr,u,σ,hN,by subst hu;exact Gh.refl _ _ _,hR⟩
variable{a:Tmp}
variable{t:List ResultVar}
theorem Kf(hw:jA σ)(ht:rs=.tmp a::t)(h:aY n l (.tmp a)=some u)(h0:t=[])(hs:∀k,k<σ.nx->gt H k=gt σ.h k)(hN:σ.nx<=N)(hb:aJ σ.nx u)(hR:R u σ):
  (Exit.ret=.normal\/Exit.ret=.ret)/\∃l',gD T ⟨H,N⟩ (fr n l) rs=some l'/\∃u' aN,σ.nx<=aN.nx/\Gh σ.nx [i9 l'] ⟨H,N⟩ [u'] aN/\R u' aN:=by
 subst ht;subst h0;exact Y0 hw (dO h dX) rfl hs hN hb hR
theorem KB{b:Tmp}{v:U}(hw:jA σ)(ht:rs=.tmp a :: .tmp b::t)(h:aY n l (.tmp a)=some u)(h':aY n l (.tmp b)=some v)(h0:t=[])(hs:∀k,k<σ.nx->gt H k=gt σ.h k)(hN:σ.nx<=N)(hb:aJ σ.nx (.tup [u,v]))(hR:R (.tup [u,v]) σ):
  (Exit.ret=.normal\/Exit.ret=.ret)/\∃l',gD T ⟨H,N⟩ (fr n l) rs=some l'/\∃u' aN,σ.nx<=aN.nx/\Gh σ.nx [i9 l'] ⟨H,N⟩ [u'] aN/\R u' aN:=by
 subst ht;subst h0;exact Y0 hw (dO h (dO h' dX)) rfl hs hN hb hR
theorem rY(ht:rs=.tmp a::t)(h:aY n l (.tmp a)=some u)(h0:t=[])(hN:jD.nx<=σ.nx)(hR:R u σ):
  (Exit.ret=.normal\/Exit.ret=.ret)/\∃l',gD T σ (fr n l) rs=some l'/\∃u' aN,jD.nx<=aN.nx/\Gh jD.nx [i9 l'] σ [u'] aN/\R u' aN:=by
 subst ht;subst h0;exact XZ (dO h dX) rfl hN hR
theorem PC{b:Tmp}{v:U}(ht:rs=.tmp a :: .tmp b::t)(h:aY n l (.tmp a)=some u)(h':aY n l (.tmp b)=some v)(h0:t=[])(hN:jD.nx<=σ.nx)(hR:R (.tup [u,v]) σ):
  (Exit.ret=.normal\/Exit.ret=.ret)/\∃l',gD T σ (fr n l) rs=some l'/\∃u' aN,jD.nx<=aN.nx/\Gh jD.nx [i9 l'] σ [u'] aN/\R u' aN:=by
 subst ht;subst h0;exact XZ (dO h (dO h' dX)) rfl hN hR
end
section
variable{T:Tb}{n:Nat}{l:List (Nat×U)}{h:List (Nat×B)}{nx:Nat}{op:Op}
theorem oNc{k off:Nat}{x:Operand}{q:List U}{e:TypeId}(ho:op=.nilCheck x)(hx:aY n l x=some (.ptr k 0 off))[g:dK h k (.row q e)]:aV T ⟨h,nx⟩ (fr n l) op=some (.ptr k 0 off,⟨h,nx⟩):=by
 subst ho;exact tI hx (by simp only[live,g.h];rfl)
end
variable{A:Prop}
theorem opn (h:A:=by first
 |exact Go.Vx.oNc rfl rfl
 |exact Go.Vx.opx):A:=h
theorem opm (h:A:=by first
 |exact Go.Vx.oNc rfl rfl
 |exact Go.Vx.opy):A:=h
section
variable{T:Tb}{ops r:List Oper}{o:Oper}{n:Nat}{l:List (Nat×U)}{σ σ':Sg}{u:U}
theorem RS.on{C:PG}{K:List U->Sg->Prop}{d:Tmp}(hk:RU C T ops r (fr n ((d,u)::l)) σ' K)(h:aV T σ (fr n l) o.op=some (u,σ'):=by exact Go.Vx.opn)(he:o.dst=some d:=by exact rfl)(hw:bO ops (fr n l) o=some true:=by exact Go.Vx.wA)(hd:Nat.blt d n=true:=by exact rfl):RU C T ops (o::r) (fr n l) σ K:=RS.op hw h he hd hk
theorem RD.on{P:Program}{acc:List RK}{K:List RK->List U->Sg->Prop}{d:Tmp}(hk:RH P T ops r (fr n ((d,u)::l)) σ ((1,⟨fr n l,o,u,false,false,σ,σ⟩)::acc) K)(h:aV T σ (fr n l) o.op=some (u,σ):=by exact Go.Vx.opm)(he:o.dst=some d:=by exact rfl)(hw:bO ops (fr n l) o=some true:=by exact Go.Vx.wA)(hd:Nat.blt d n=true:=by exact rfl):RH P T ops (o::r) (fr n l) σ acc K:=RD.look hw h he hd hk
end
theorem goN{B:Prop}(h:B)(g:Hd B->A:=by intro h;(repeat' first |refine Go.Vx.gs ?_ |refine Go.Vx.RS.on ?_ |refine Go.Vx.rg1 rfl ?_);exact h.h):A:=g ⟨h⟩
theorem rp{B:Prop}(h:B)(g:Hd B->A:=by intro h;(repeat' first |refine Go.Vx.gs ?_ |refine Go.Vx.RS.on ?_);exact h.h):A:=g ⟨h⟩
theorem c8{B:Prop}(h:B) (g:Hd B->A:=by
 intro h
 repeat' first
  |(refine Go.Vx.RD.nt rfl rfl rfl ?_ rfl ?_;· first |with_reducible_and_instances assumption |exact rfl)
  |(refine Go.Vx.RD.nf rfl rfl rfl ?_ rfl ?_;· first |with_reducible_and_instances assumption |exact rfl)
  |refine Go.Vx.RD.on ?_
 exact h.h):A:=g ⟨h⟩
variable{K:Nat}
theorem QG(b:B)(sz:Nat){c:B}(h:BelB K c):fzB K b sz c=c:=by
 cases c with
 |row l e=>simp only[fzB];rw[qR _ _ _ h]|vec l e s st=>simp only[fzB];rw[qR _ _ _ h]
 |map es cl=>simp only[fzB,B.map.injEq,and_true];exact List.map_congr_left (g:=id) (fun e he=>by rw[CY _ _ _ (h e he).2];rfl)|>.trans (by simp)
theorem QI{n k:Nat}(h:n<=k){b:B}(hb:BelB n b):BelB k b:=by
 cases b with
 |row l e=>exact aE.le h _ hb|vec l e s st=>exact aE.le h _ hb
 |map es cl=>exact fun e he=>⟨aJ.le h _ (hb e he).1,aJ.le h _ (hb e he).2⟩
variable{sz:Nat}
variable{α:Type}
variable{e:TypeId}
theorem Bi{n0 st:Nat}{c:α->List U}{xs:List α}{tm':List U}(hw:jA σ)(hK:σ.nx<=K)(hg:gt H K=some (.bv c xs e sz st))(hs:∀k,k<σ.nx->gt H k=gt σ.h k)(hN:σ.nx<=N)(ht:fF K (.bv c xs e sz st) sz tm=tm')(hb:aE σ.nx tm')(h0:n0<=σ.nx):Gh n0 tm ⟨H,N⟩ tm' σ:=by
 have h1:Gh n0 tm ⟨H,N⟩ tm' ⟨fzH K (.bv c xs e sz st) sz H,N⟩:=Gh.fz (σ:=⟨H,N⟩) K (.bv c xs e sz st) sz hg nofun ht rfl;refine h1.trans (Gh.back hw (fun k hk=>?_) hN hb h0);rw[wO,if_neg (by omega),hs k hk];rcases E3:gt σ.h k with _|b;rfl;simp only[zM];rw[QG _ _ (QI hK (hw k b E3).2)]
instance(priority:=50){h:List (Nat×B)}{K:Nat}{b:B}:IC h K b (ug h K b):=⟨rfl⟩
section
variable{T:Tb}{n:Nat}{l:List (Nat×U)}{h:List (Nat×B)}{nx nx':Nat}{op:Op}
theorem nw{c:α->List U}{x y:Operand}{t xt e1 e2:TypeId}{args:Array Operand}{ts:Array TypeId}{a off s1 by_:Nat}{z:Value}{ys:List α}{b:Bool}{q:List U}(ho:op=.call { callee:=.builtin .append,args:=args,argTypes:=ts })(ha:args.toList=[x,y])(ht:ts.toList=[t,xt])(hx:aY n l x=some (.sl a off 0 0))(hy:aY n l y=some (.isl b (ys.map c)))[d1:cY T t (.slice e)][d2:cY T xt (.slice e2)][i:fG T e s1 by_ z][g:dK h a (.row q e1)][lc:eI c s1][hn:SuC nx nx'](hp:Nat.ble 1 s1=true)(hq:Nat.ble off q.length=true)(hz:Nat.beq z.cells.toList.length s1=true)(hr:ys.length*by_<=140737488355328/\ys.length<=140737488355328):aV T ⟨h,nx⟩ (fr n l) op=some (.vl nx 0 0 ys.length,⟨(nx,.bv c ys e s1 0)::h,nx'⟩):=by
 subst ho;have hn':=hn.h;subst hn';obtain⟨sz,rfl⟩:∃sz,s1=sz+1:=⟨s1-1,by have:=zY hp;omega⟩;exact m8 (σ:=⟨h,nx⟩) ha ht hx hy (Oc c ys d1.h d2.h i.h hz (by simp only[rowOf,g.h]) hq (UU c lc.h) hr)
end
theorem WPU.wf{C:PG}{n0:Nat}{c:Code}{tm:List U}{σ:Sg}{Q:Exit->List U->Sg->Prop}(h:jA σ->aE σ.nx tm->WPU C n0 c tm σ Q):WPU C n0 c tm σ Q:=fun hn F x tv m w a b0 hx st hG hd ro hro=>h (hx ▸ st.h.wf) (hx ▸ st.e.bel) hn F x tv m w a b0 hx st hG hd ro hro
theorem Gh.first{m st:Nat}{l:List U}(hw:jA σ)(hK:σ.nx<=K)(hN:K<N)(hg:gt H K=some (.vec l e sz st))(hs:∀k,k<σ.nx->gt H k=gt σ.h k)(hb:aE σ.nx l):Gh σ.nx [.vl K st 0 m] ⟨H,N⟩ [.vl σ.nx st 0 m] ⟨(σ.nx,.vec l e sz st)::σ.h,σ.nx+1⟩:=fun F x tv hx hr hf he=>by
 have hxh:x.σ.h=H:=by rw[hx]
 have hxn:x.σ.nx=N:=by rw[hx]
 let y:Cx:=⟨fun k=>if k=σ.nx then x.ρ K else x.ρ k,⟨(σ.nx,.vec l e sz st)::σ.h,σ.nx+1⟩,x.s⟩
 have hnone:∀k,σ.nx<=k->gt σ.h k=none:=fun k hk=>by rcases hq:gt σ.h k with _|b;rfl;have:=(hw k b hq).1;omega
 have hM:Mo σ.nx x y:=⟨fun k hk m4=>⟨Nat.lt_succ_of_lt hk,fun b' hb'=>by
  have h1:gt y.σ.h k=gt σ.h k:=by show gt ((σ.nx,_)::σ.h) k=_;rw[aK,if_neg (by omega)]
  rw[h1,<-hs k hk,<-hxh]at hb';exact⟨b',hb',zF _,fun _=>⟨by show(if k=σ.nx then _ else _)=_;rw[if_neg (by omega)],fun l e sz st h=>⟨l,h⟩⟩⟩⟩,fun _ _ _ h=>h⟩
 have hbk:∀k b,gt y.σ.h k=some b->(k=σ.nx/\b=.vec l e sz st)\/(k<σ.nx/\gt σ.h k=some b):=fun k b hb=>by have hb:gt ((σ.nx,B.vec l e sz st)::σ.h) k=some b:=hb;rw[aK]at hb;by_cases e:σ.nx=k;rw[if_pos e]at hb;cases hb;exact .inl ⟨e.symm,rfl⟩;rw[if_neg e]at hb;exact .inr ⟨(hw k b hb).1,hb⟩
 have hyρ:∀k,k<σ.nx->y.ρ k=x.ρ k:=fun k hk=>by show(if k=σ.nx then _ else _)=_;rw[if_neg (by omega)]
 have hyK:y.ρ σ.nx=x.ρ K:=by show(if σ.nx=σ.nx then _ else _)=_;rw[if_pos rfl]
 refine⟨y,fun m w hf=>bA.refl hf,rfl,⟨fun k b hb0=>?_,fun k k' b b' i hb hb' h1 h2=>?_,hr.bd⟩,fun i b J=>?_,?_,hM.ke⟩;rcases hbk k b hb0 with⟨rfl,rfl⟩|⟨hk,hb⟩;refine⟨zN _,?_⟩;obtain⟨_,k1,k2,h3⟩:=hr.ok K _ (by rw[hxh];exact hg);refine⟨k1,k2,?_⟩;rw[hyK];rcases h3 with h3 |⟨i,l',e1,e2,e3⟩;exact .inl h3;exact .inr ⟨i,l',e1,e2,hM.ke.E hb e3⟩;refine⟨Nat.lt_succ_of_lt hk,?_⟩;have h0:gt x.σ.h k=some b:=by rw[hxh,hs k hk];exact hb
 have hbel:=(hw k b hb).2;obtain⟨_,h3⟩:=hr.ok k b h0;cases b with
 |row q e'=>obtain⟨k1,i,l',e1,e2,e3⟩:=h3;exact⟨k1,i,l',by rw[hyρ k hk];exact e1,e2,hM.ke.E hbel e3⟩
 |vec q e' sz' st'=>obtain⟨k1,k2,h3⟩:=h3;refine⟨k1,k2,?_⟩;rw[hyρ k hk];rcases h3 with h3 |⟨i,l',e1,e2,e3⟩;exact .inl h3;exact .inr ⟨i,l',e1,e2,hM.ke.E hbel e3⟩
 |map es cl=>obtain⟨i,es',e1,e2,e3⟩:=h3;refine⟨i,es',by rw[hyρ k hk];exact e1,e2,e3.1,fun j e he=>?_⟩;obtain⟨v,q1,q2,q3,q4⟩:=e3.2 j e he;have hb2:=hbel e (zX he);exact⟨v,q1,hM.ke _ _ hb2.1 q2,hM.ke _ _ hb2.2 q3,q4⟩
 rcases hbk k b hb with⟨rfl,rfl⟩|⟨hk,hb⟩;rcases hbk k' b' hb' with⟨rfl,_⟩|⟨hk',hb'⟩;rfl;rw[hyK]at h1;rw[hyρ k' hk']at h2;have:=hr.inj K k' _ _ i (by rw[hxh];exact hg) (by rw[hxh,hs k' hk'];exact hb') h1 h2;omega;rcases hbk k' b' hb' with⟨rfl,rfl⟩|⟨hk',hb'⟩;rw[hyK]at h2;rw[hyρ k hk]at h1;have:=hr.inj k K _ _ i (by rw[hxh,hs k hk];exact hb) (by rw[hxh];exact hg) h1 h2;omega;rw[hyρ k hk]at h1;rw[hyρ k' hk']at h2;exact hr.inj k k' _ _ i (by rw[hxh,hs k hk];exact hb) (by rw[hxh,hs k' hk'];exact hb') h1 h2;obtain⟨h1,h2⟩:=hf i b J;refine⟨h1,fun k c hc=>?_⟩;rcases hbk k c hc with⟨rfl,rfl⟩|⟨hk,hb⟩;rw[hyK];exact h2 K _ (by rw[hxh];exact hg);rw[hyρ k hk];exact h2 k _ (by rw[hxh,hs k hk];exact hb);obtain⟨v,vs,rfl,h1,h2⟩:=he.inv;have:=h2.nil_inv;subst this;refine aQ.cons ?_ (aQ.nil y);simp only[aA]at h1 ⊢;obtain⟨k1,k2,k3⟩:=h1;refine⟨k1,zN _,fun b hb=>?_⟩;rcases hbk _ b hb with⟨_,rfl⟩|⟨hk,_⟩;obtain⟨g1,g2⟩:=k3 _ (by rw[hxh];exact hg);refine⟨g1,fun h=>?_⟩;rw[hyK];exact g2 h;omega
theorem dM.op{C:PG}{T:Tb}(hT:eZ C.prog T){σ σ':Sg}{tm:List U}{o:Oper}{u:U}(h:aV T σ tm o.op=some (u,σ')):dM C σ tm o (fun u' s'=>u'=u/\s'=σ'):=fun F x tv m w a next Q hxσ st hG hn ro hro=>by
 subst hxσ;exact oM (FJ h) (st.op hT o h fun y tv' aF w₁ aS e1 st' hadv hke hnx hdf=>hn u y tv' aF w₁ aS ⟨rfl,e1⟩ st' hadv hke hnx hdf)
theorem dM.mono{C:PG}{o:Oper}{R R':U->Sg->Prop}(h:dM C σ tm o R)(hr:∀u s,R u s->R' u s):dM C σ tm o R':=fun F x tv m w a next Q hxσ st hG hn ro hro=>h F x tv m w a next Q hxσ st hG (fun u y tv' aF w₁ aS hR=>hn u y tv' aF w₁ aS (hr _ _ hR)) ro hro
section
variable{C:PG}{T:Tb}{ops r:List Oper}{o:Oper}{n:Nat}{l:List (Nat×U)}{σ:Sg}{K:List U->Sg->Prop}{R:U->Sg->Prop}
theorem sV{d:Tmp}(he:o.dst=some d)(hs:dM C σ (fr n l) o R)(hk:∀u σ',R u σ'->RU C T ops r (fr n ((d,u)::l)) σ' K)(hw:bO ops (fr n l) o=some true:=by exact Go.Vx.wA)(hd:Nat.blt d n=true:=by exact rfl):RU C T ops (o::r) (fr n l) σ K :=
 .inr (.inr (.inr (.inr ⟨hw,R,hs,fun u σ' h=>by rw[he,mP (d:=some d) u hd];exact hk u σ' h⟩)))
theorem RS.stepn(he:o.dst=none)(hs:dM C σ (fr n l) o R)(hk:∀u σ',R u σ'->RU C T ops r (fr n l) σ' K)(hw:bO ops (fr n l) o=some true:=by exact Go.Vx.wA):RU C T ops (o::r) (fr n l) σ K :=
 .inr (.inr (.inr (.inr ⟨hw,R,hs,fun u σ' h=>by rw[he];exact hk u σ' h⟩)))
end
section
variable{T:Tb}{σ:Sg}{n:Nat}{l:List (Nat×U)}{v w:U}
theorem OV(c:α->List U)(ys:List α){t xt e2:TypeId}{by_ a st off:Nat}{z:Value}{xs W:List α}(hd:T.und t=some (.slice e))(bX:T.und xt=some (.slice e2))(hi:T.inf e=some (sz+1,by_,z))(hz:Nat.beq z.cells.toList.length (sz+1)=true)(hc:∀x,(c x).length=sz+1)(hg:gt σ.h a=some (.vec (xs.map c).flatten e (sz+1) st))(hx:xs.drop off=W)(ho:off<=xs.length)(h0:off=0\/W≠[])(hy:0<ys.length)(hw:m7 σ (sz+1) w=some (ys.length,(ys.map c).flatten))(hr:(W.length+ys.length)*by_<=140737488355328/\W.length+ys.length<=140737488355328):sD T σ t xt (.vl a st off W.length) w=some (.vl a (st+1) 0 (W++ys).length,⟨ug σ.h a (.vec ((W++ys).map c).flatten e (sz+1) (st+1)),σ.nx⟩):=by
 subst hx;have b1:Nat.beq st st=true:=by simp[beq_eq]
 have b2:Nat.beq e e=true:=by simp[beq_eq]
 have b3:Nat.beq (sz+1) (sz+1)=true:=by simp[beq_eq]
 have hl:∀l:List α,(l.map c).flatten.length=l.length*(sz+1):=fun l=>tO hc l;have hs:fI (xs.map c).flatten (off*(sz+1)) ((xs.drop off).length*(sz+1))=some ((xs.drop off).map c).flatten:=by
  have e1:(xs.map c).flatten=((xs.take off).map c).flatten++((xs.drop off).map c).flatten:=by rw[<-List.flatten_append,<-List.map_append,List.take_append_drop]
  have e2:((xs.take off).map c).flatten.length=off*(sz+1):=by rw[hl,List.length_take,Nat.min_eq_left ho]
  unfold fI;rw[if_pos (by rw[e1,zU,e2,hl];omega),e1,<-e2,List.drop_left,zW (by rw[hl];exact zF _)]
 have hcond:0<ys.length/\(off=0\/0<(xs.drop off).length)\/off=0/\(xs.drop off).length*(sz+1)=(xs.map c).flatten.length:=by
  refine .inl ⟨hy,?_⟩;rcases h0 with h0 |h0;exact .inl h0;exact .inr (by cases hq:xs.drop off with
   |nil=>exact absurd hq h0|cons=>simp)
 rw[Ow,zU];simp only[sD,hd,bX,hi,hz,zC,hw,hg,b1,b2,b3,hs,hr.1,hr.2,true_and,hcond,if_true]
end
theorem mO.bp{P:Program}{T:Tb}{n:Nat}{l:List (Nat×U)}{t:TypeId}{b:Nat}{z:Value}{zu cs:List U}{x:Operand}{u:U}(hd:T.und t=some (.slice e))(hi:T.inf e=some (sz,b,z))(hx:aY n l x=some u)(h1:Nat.ble (1*sz) 16777216=true)(h3:Nat.beq z.cells.toList.length sz=true)(hz:jF z.cells.toList=some zu)(hf:lH (fun i=>some (i*sz,sz)) (lX zu 1) [(0,u)]=some cs)(hk:okL cs=true)(hl:cs.length=sz)(hc:∀m,aJ m u->aE m cs):mO P T (fr n l) (.buildSlice t 1 #[(0,x)]) (.isl false [cs]):=by
 refine .inr ⟨1,sz,cs,e,fun σ=>wN hd hi (show rV n l [(0,x)]=some [(0,u)] by simp[rV,hx]) h1 rfl h3 hz hf hk,by omega,fun m hm=>hc m (hm x (by simp[Op.operands]) u (cB hx)),?_⟩;rw[show bC sz 1 cs=[cs] by simp[bC,<-hl]]
theorem fY{k nx:Nat}{b:B}{h:List (Nat×B)}(hk:k<nx):gt ((nx,b)::h) k=gt h k:=by rw[aK,if_neg (by omega)]
end Go.Vx
namespace Go.Proofs
open Go Go.Rx Go.Vx Tryz
instance:TbP prog tb:=⟨tb_ok⟩
set_option maxRecDepth 20000
set_option maxHeartbeats 4000000
set_option synthInstance.maxSize 4000
set_option synthInstance.maxHeartbeats 200000
instance:oA tb 95 [.nilp,.int .i64 0] [(0,1),(1,1)]:=⟨pD Lg.h Sc.h rfl (by kernel_rfl)⟩
instance:oA tb 97 [.int .i64 0,.int .i64 0] [(0,1),(1,1)]:=⟨pD Lf.h Sb.h rfl (by kernel_rfl)⟩
instance:oA tb 99 [.nils,.int .i64 0] [(0,1),(1,1)]:=⟨pD Le.h Sa.h rfl (by kernel_rfl)⟩
instance:oA tb 101 [.bool false,.int .i64 0] [(0,1),(1,1)]:=⟨pD TK.h YY.h rfl (by kernel_rfl)⟩
instance:oA tb 103 [.int .i64 0,.nils,.nilp,.int .i64 0,.int .i64 0,.int .i64 0,.nils,.int .i64 0,.nilp,.int .i64 0,.bool false,.int .i64 0] [(0,1),(1,1),(2,2),(4,2),(6,2),(8,2),(10,2)]:=⟨pD TJ.h iG.h rfl (by kernel_rfl)⟩
instance:oA tb 107 [.int .i64 0,.nilp] [(0,1),(1,1)]:=⟨pD TI.h sJ.h rfl (by kernel_rfl)⟩
structure eE where
 f:Int
 to:Nat
structure PN where
 kind:Int
 arcs:List eE
 fw:Option Nat
 fwA:Int
 mt:Int
 mtA:Int
 more:List eE
 moA:Int
 cp:Option Nat
 cpA:Int
 ch:Bool
 chA:Int
abbrev pt(nm:Nat->Nat)(i:Nat):U:=.ptr (nm i) 0 0
def po(nm:Nat->Nat):Option Nat->U
 |none=>.nilp|some i=>pt nm i
def bH(nm:Nat->Nat)(a:eE):List U:=[.int .i64 a.f,pt nm a.to]
def jJ(nm:Nat->Nat)(x:PN):List U:=[.i6 x.kind,.iM (bH nm) x.arcs,po nm x.fw,.i6 x.fwA,.i6 x.mt,.i6 x.mtA,.iM (bH nm) x.more,.i6 x.moA,po nm x.cp,.i6 x.cpA,.bool x.ch,.i6 x.chA]
instance{nm:Nat->Nat}:eI (bH nm) 2:=⟨fun _=>rfl⟩
theorem Tp(σ:Sg)(nm:Nat->Nat)(o:Option Nat)(a b:Int):aO prog 71 [.agg [po nm o,.i6 a],.i6 b] σ (fun u σ'=>u=.tup [po nm (cond (a != b) none o),.bool (!(a != b))]/\σ'=σ):=by
 refine aO.wf fun hw hb=>?_;simp only[aE,aJ,and_true,true_and]at hb;obtain⟨h,nx⟩:=σ
 haveI:SuC nx (nx+1):=⟨rfl⟩
 rcases o with _ |i
 all_goals
  refine dF 14 oY ?_;refine go ?_;refine cU rfl (fun h1=>?_) (fun h1=>?_);refine go ?_;exact KB hw rfl rfl rfl rfl (fun k hk=>fY hk) (Nat.le_succ _) (by simp[aJ,aE]) ⟨by rw[h1];rfl,rfl⟩;refine go ?_;exact KB hw rfl rfl rfl rfl (fun k hk=>fY hk) (Nat.le_succ _) (by simp only[aJ,aE,and_true];exact hb) ⟨by rw[h1];rfl,rfl⟩
theorem ZG(σ:Sg)(v a b:Int):aO prog 108 [.agg [.i6 v,.i6 a],.i6 b] σ (fun u σ'=>u=.tup [.i6 (cond (a != b) 0 v),.bool (!(a != b))]/\σ'=σ):=by
 refine aO.wf fun hw hb=>?_;obtain⟨h,nx⟩:=σ
 haveI:SuC nx (nx+1):=⟨rfl⟩
 refine dF 14 yY ?_;refine go ?_;refine cU rfl (fun h1=>?_) (fun h1=>?_);refine go ?_;exact KB hw rfl rfl rfl rfl (fun k hk=>fY hk) (Nat.le_succ _) (by simp[aJ,aE]) ⟨by rw[h1];rfl,rfl⟩;refine go ?_;exact KB hw rfl rfl rfl rfl (fun k hk=>fY hk) (Nat.le_succ _) (by simp[aJ,aE]) ⟨by rw[h1];rfl,rfl⟩
theorem NO(σ:Sg)(v:Bool)(a b:Int):aO prog 69 [.agg [.bool v,.i6 a],.i6 b] σ (fun u σ'=>u=.tup [.bool (cond (a != b) false v),.bool (!(a != b))]/\σ'=σ):=by
 refine aO.wf fun hw hb=>?_;obtain⟨h,nx⟩:=σ
 haveI:SuC nx (nx+1):=⟨rfl⟩
 refine dF 14 EC ?_;refine go ?_;refine cU rfl (fun h1=>?_) (fun h1=>?_);refine go ?_;exact KB hw rfl rfl rfl rfl (fun k hk=>fY hk) (Nat.le_succ _) (by simp[aJ,aE]) ⟨by rw[h1];rfl,rfl⟩;refine go ?_;exact KB hw rfl rfl rfl rfl (fun k hk=>fY hk) (Nat.le_succ _) (by simp[aJ,aE]) ⟨by rw[h1];rfl,rfl⟩
theorem E9(σ:Sg)(nm:Nat->Nat)(v:List eE)(a b:Int):aO prog 104 [.agg [.iM (bH nm) v,.i6 a],.i6 b] σ (fun u σ'=>u=.tup [.iM (bH nm) (cond (a != b) [] v),.bool (!(a != b))]/\σ'=σ):=by
 refine aO.wf fun hw hb=>?_;simp only[aE,aJ,and_true,true_and]at hb;obtain⟨h,nx⟩:=σ
 haveI:SuC nx (nx+1):=⟨rfl⟩
 refine dF 14 pB ?_;refine go ?_;refine cU rfl (fun h1=>?_) (fun h1=>?_);refine go ?_;refine⟨.inr rfl,_,dO rfl (dO rfl dX),.tup [.isl false [],.bool false],⟨h,nx⟩,zF _,?_,by rw[h1];rfl,rfl⟩;exact(Gh.wk (.cons (.tup (.cons (.nil false) (.cons (.refl _) .nil))) .nil)).trans (Gh.back hw (fun k hk=>fY hk) (Nat.le_succ _) (by simp[aE,aJ,fW]) (zF _));refine go ?_;exact KB hw rfl rfl rfl rfl (fun k hk=>fY hk) (Nat.le_succ _) (by simp only[aJ,aE,and_true];exact hb) ⟨by rw[h1];rfl,rfl⟩
variable{nm:Nat->Nat}
theorem KE{o:Option Nat}{a b:Int}{t:Bool}{v:U}(ht:(a != b)=t)(hv:po nm (cond t none o)=v)(σ:Sg):aO prog 71 [.agg [po nm o,.i6 a],.i6 b] σ (fun u σ'=>u=.tup [v,.bool (!t)]/\σ'=σ):=by subst ht;subst hv;exact Tp σ nm o a b
structure PP where
 H:dY
 N:List PN
 roots:List Nat
 size:Int
 gen:Int
def cD(nm:Nat->Nat)(i:Nat):List U:=[pt nm i]
instance{nm:Nat->Nat}:eI (cD nm) 1:=⟨fun _=>rfl⟩
def lR(kr st:Nat)(P:PP):List U:=[.iM iK P.H.Types,.iM kS P.H.Feats,.vl kr st 0 P.roots.length,.i6 P.size,.i6 P.gen]
def EL(n:Nat):Option Nat->Prop
 |none=>True|some i=>i<n
structure gJ(n:Nat)(x:PN):Prop where
 arcs:∀a∈x.arcs,a.to<n
 fw:EL n x.fw
 more:∀a∈x.more,a.to<n
 cp:EL n x.cp
structure PH(kp kr st:Nat)(nm:Nat->Nat)(P:PP)(h:List (Nat×B)):Prop where
 pool:gt h kp=some (.row (lR kr st P) 83)
 roots:gt h kr=some (.vec (P.roots.map (cD nm)).flatten 92 1 st)
 node:∀i x,P.N[i]? = some x->gt h (nm i)=some (.row (jJ nm x) 103)
 inj:∀i j,i<P.N.length->j<P.N.length->nm i=nm j->i=j
 wf:∀x∈P.N,gJ P.N.length x
 rt:∀r∈P.roots,r<P.N.length
def qM(N:List PN)(g:Int):Nat->Nat->Option Nat
 |0,_=>none|m+1,p=>a8 N[p]? fun x=>cond (x.fwA != g) (some p) (a8 x.fw fun q=>qM N g m q)
section
variable{kp kr st:Nat}{nm:Nat->Nat}{P:PP}{h:List (Nat×B)}{nx:Nat}
theorem PH.gp(p:PH kp kr st nm P h):dK h kp (.row [.iM iK P.H.Types,.iM kS P.H.Feats,.vl kr st 0 P.roots.length,.i6 P.size,.i6 P.gen] 83):=⟨p.pool⟩
theorem PH.gn(p:PH kp kr st nm P h){i:Nat}{x:PN}(hx:P.N[i]? = some x):dK h (nm i) (.row [.i6 x.kind,.iM (bH nm) x.arcs,po nm x.fw,.i6 x.fwA,.i6 x.mt,.i6 x.mtA,.iM (bH nm) x.more,.i6 x.moA,po nm x.cp,.i6 x.cpA,.bool x.ch,.i6 x.chA] 103):=⟨p.node i x hx⟩
theorem BE(p:PH kp kr st nm P h)(n:Nat){i r:Nat}(J:qM P.N P.gen n i=some r):aO prog 66 [.ptr kp 0 0,pt nm i] ⟨h,nx⟩ (fun u σ'=>u=pt nm r/\σ'=⟨h,nx⟩):=by
 haveI:=p.gp
 refine dF 23 p9 ?_;refine goN ?_;refine gL (fun m tm σ=>∃i,qM P.N P.gen m i=some r/\tm=fr 23 [(0,.ptr kp 0 0),(1,pt nm i)]/\σ=⟨h,nx⟩) (fun _ _=>False) n ⟨i,J,rfl,rfl⟩ (fun _ _ h=>h.elim) ?_ (zF _);rintro(_ |m) _ _ ⟨i,J,rfl,rfl⟩;cases J;obtain⟨x,hx,J⟩:=aB J
 haveI:=p.gn hx
 refine goN ?_;apply aL;refine goN ?_;refine dE [] ?_;refine c8 ?_;cases hb:x.fwA != P.gen with
 |true=>rw[hb]at J;obtain rfl:=sI J;refine gZ rfl (KE hb rfl) oY ?_;refine c8 ?_;refine aZ ⟨by kernel_rfl,trivial,?_⟩;refine goN ?_;refine cU rfl (fun h1=>?_) (fun h1=>by cases h1);refine goN ?_;exact rY rfl rfl rfl (zF _) ⟨rfl,rfl⟩
 |false=>rw[hb]at J;obtain⟨q,hq,J⟩:=aB J;refine gZ rfl (KE (v:=pt nm q) hb (by rw[hq];rfl)) oY ?_;refine c8 ?_;refine aZ ⟨by kernel_rfl,trivial,?_⟩;refine goN ?_;refine cU rfl (fun h1=>by cases h1) (fun h1=>?_);refine goN ?_;exact⟨m,_,_,zN _,⟨q,J,rfl,rfl⟩,zF _,Gh.sub (by((repeat refine⟨rfl,?_⟩);exact trivial))⟩
end
theorem QU{n:Nat}(l:List eE)(hl:∀a∈l,nm a.to<n):fW n (l.map (bH nm)):=by
 rw[QV];intro c hc;obtain⟨a,ha,rfl⟩:=List.mem_map.1 hc;simp only[bH,pt,aE,aJ,and_true,true_and];exact hl a ha
theorem Oz(h:List (Nat×B))(nx:Nat)(nm:Nat->Nat)(l:List eE)(hl:l.length<=1000000):aO prog 105 [.iM (bH nm) l] ⟨h,nx⟩ (fun u σ'=>u=.vl nx 0 0 l.length/\σ'=⟨(nx,.bv (bH nm) l 107 2 0)::h,nx+1⟩):=by
 refine aO.wf fun hw hb=>?_
 haveI:SuC nx (nx+1):=⟨rfl⟩
 refine gY 8 sS ?_;refine goN ?_;refine RS.nilq rfl rfl (by exact cY.h) rfl rfl rfl rfl (fun z hz=>?_);refine goN ?_;refine cU rfl (fun h1=>?_) (fun h1=>?_);have:l=[]:=by have:=hz h1;simpa using this
 subst this;refine goN ?_;exact⟨.inr rfl,_,dO rfl dX,.vl nx 0 0 0,⟨(nx,.vec [] 107 2 0)::h,nx+1⟩,Nat.le_succ _,Gh.nilvec (σ:=⟨h,nx⟩) (tm:=[.nils]) 0 107 2 (by decide) (zF _) rfl,rfl,rfl⟩;refine goN ?_
 haveI:SuC (nx+1) (nx+2):=⟨rfl⟩
 refine bV ?_;refine goN ?_;refine RS.w rfl (nw (c:=bH nm) (ys:=l) rfl rfl rfl rfl rfl rfl rfl rfl ⟨by omega,by omega⟩) ?_;refine goN ?_;refine⟨.inr rfl,_,dO rfl dX,.vl nx 0 0 l.length,_,?_,Gh.first (σ:=⟨h,nx⟩) (K:=nx+1) (N:=nx+2) hw (Nat.le_succ _) (zN _) (by simp[aK]) (fun k hk=>?_) ?_,rfl,rfl⟩;exact Nat.le_succ _;have hk:k<nx:=hk;rw[aK,if_neg (by omega),aK,if_neg (by omega)];simp only[aE,aJ,and_true]at hb;rw[sF];intro u hu;obtain⟨c,hc,hu⟩:=List.mem_flatten.1 hu;exact(sF _ _).1 ((QV _ _).1 hb c hc) u hu
def jP(g:Int)(x:PN):Int:=cond (x.mtA != g) x.kind x.mt
def nJ(g:Int)(x:PN):List eE:=cond (x.moA != g) [] x.more
def cG(g:Int)(x:PN):List eE:=x.arcs++nJ g x
section
variable{kp kr st:Nat}{nm:Nat->Nat}{P:PP}{h:List (Nat×B)}{nx:Nat}
variable{i:Nat}
variable{x:PN}
theorem UZ(p:PH kp kr st nm P h)(hx:P.N[i]? = some x):aO prog 70 [.ptr kp 0 0,pt nm i] ⟨h,nx⟩ (fun u σ'=>u=.i6 (jP P.gen x)/\σ'=⟨h,nx⟩):=by
 haveI:=p.gp
 haveI:=p.gn hx
 refine dF 25 oZ ?_;refine goN ?_;refine dE [] ?_;refine c8 ?_;refine gZ rfl (fun s=>ZG s x.mt x.mtA P.gen) yY ?_;refine c8 ?_;refine aZ ⟨by kernel_rfl,trivial,?_⟩;refine goN ?_;refine cU rfl (fun h1=>?_) (fun h1=>?_);refine goN ?_;have h2:(x.mtA != P.gen)=false:=by simpa using h1
 exact rY rfl rfl rfl (zF _) ⟨by rw[jP,h2];rfl,rfl⟩;refine goN ?_;have h2:(x.mtA != P.gen)=true:=by simpa using h1
 exact rY rfl rfl rfl (zF _) ⟨by rw[jP,h2];rfl,rfl⟩
theorem PH.lt(p:PH kp kr st nm P h)(hw:jA ⟨h,nx⟩)(hi:i<P.N.length):nm i<nx:=(hw _ _ (p.node i _ (List.getElem?_eq_getElem hi))).1
theorem PH.arcsLt(p:PH kp kr st nm P h)(hw:jA ⟨h,nx⟩)(hx:P.N[i]? = some x)(g:Int):∀a∈cG g x,nm a.to<nx:=fun a ha=>by
 have hwf:=p.wf x (zX hx);rcases yD.1 ha with ha |ha;exact p.lt hw (hwf.arcs a ha);unfold nJ at ha;rcases hb:x.moA != g with _|_;rw[hb]at ha;exact p.lt hw (hwf.more a ha);rw[hb]at ha;cases ha
theorem Oa(p:PH kp kr st nm P h)(hx:P.N[i]? = some x)(hl:(cG P.gen x).length<=1000000):aO prog 72 [.ptr kp 0 0,pt nm i] ⟨h,nx⟩ (fun u σ'=>u=.iM (bH nm) (cG P.gen x)/\σ'=⟨h,nx⟩):=by
 refine aO.wf fun hw _=>?_;have hbl:=QU (nm:=nm) (n:=nx) _ (p.arcsLt hw hx P.gen);rw[cG,zU]at hl
 haveI:=p.gp
 haveI:=p.gn hx
 refine dF 26 uB ?_;refine goN ?_;refine dE [] ?_;refine c8 ?_;refine gZ rfl (fun s=>E9 s nm x.more x.moA P.gen) pB ?_;refine c8 ?_;refine aZ ⟨by kernel_rfl,trivial,?_⟩;refine goN ?_;refine i7 rfl (eG rfl sS rfl).2 (Oz h nx nm x.arcs (by omega)) rfl rfl ?_;rintro _ _ ⟨rfl,rfl⟩;refine goN ?_;refine RS.w rfl (oAq (c:=bH nm) (xs:=x.arcs) (ys:=nJ P.gen x) rfl rfl rfl rfl rfl rfl rfl rfl ⟨by omega,by omega⟩) ?_;refine goN ?_;refine⟨.inr rfl,_,dO rfl dX,_,⟨h,nx⟩,zF _,Bi (c:=bH nm) (xs:=cG P.gen x) (e:=107) (sz:=2) (K:=nx) (st:=1) hw (zF _) (by simp[aK,cG]) (fun k hk=>fY hk) (Nat.le_succ _) (tm':=[.iM (bH nm) (cG P.gen x)]) ?_ (by simp only[aE,aJ,and_true];exact hbl) (zF _),rfl,rfl⟩;exact congrArg (fun u=>[u]) (CR (c:=bH nm) (sz:=2) (fun _=>rfl) (cG P.gen x) nx 2 107 1)
end
def AS{α:Type}(q:α->Bool)(l:List α):Int:=match l.findIdx? q with
 |some i=>(i:Int)|none=>-1
theorem Vs{σ:Sg}{l:List eE}{g:FuncId}{fn:Func}{cap:List U}{q:eE->Bool}(hfn:tb.fn g=some fn)(hb:fn.body.isSome=true)(hl:l.length<=1000000)(hg:∀a∈l,aO prog g (.agg (bH nm a)::cap) σ (fun u σ'=>u=.bool (q a)/\σ'=σ)):
  aO prog 102 [.iM (bH nm) l,.fn (.func g) [] cap] σ (fun u σ'=>u=.i6 (AS q l)/\σ'=σ):=by
 refine dF 19 yZ ?_;refine goN ?_;refine gL (fun m tm σ'=>∃i:Nat,m=l.length-i/\i<=l.length/\(∀(j:Nat)(a:eE),j<i->l[j]? = some a->q a=false)/\tm=fr 19 [(0,.iM (bH nm) l),(1,.fn (.func g) [] cap),(7,.i6 l.length),(8,.i6 i)]/\σ'=σ) (fun tm σ'=>AS q l= -1/\tm=fr 19 []/\σ'=σ) (l.length-0) ⟨0,rfl,Nat.zero_le _,fun j a hj=>by omega,rfl,rfl⟩ ?_ ?_ (zF _);rintro _ _ ⟨h1,rfl,rfl⟩;refine goN ?_;exact rY rfl rfl rfl (zF _) ⟨by rw[h1],rfl⟩;rintro m _ _ ⟨i,rfl,hi,hno,rfl,rfl⟩;refine goN ?_;refine cU rfl (fun h1=>?_) (fun h1=>?_)
 ·have hil:i<l.length:=by simpa using h1
  obtain⟨a,ha⟩:∃a,l[i]? = some a:=⟨l[i],List.getElem?_eq_getElem hil⟩;have hid:aC l (i:Int)=some a:=by rw[aC,if_pos ⟨by omega,by omega⟩];simpa using ha
  refine goN ?_;apply aL;refine goN ?_;refine aP hid ?_;refine goN ?_;refine i7 rfl (wQ rfl rfl hfn hb rfl (by simp)) (hg a (zX ha)) rfl rfl ?_;rintro _ _ ⟨rfl,rfl⟩;refine goN ?_;refine cU rfl (fun h2=>?_) (fun h2=>?_);refine goN ?_;refine rY rfl rfl rfl (zF _) ⟨?_,rfl⟩;have:l.findIdx? q=some i:=by rw[List.findIdx?_eq_some_iff_getElem];refine⟨hil,?_,fun j hj=>?_⟩;rw[List.getElem?_eq_getElem hil]at ha;cases ha;exact h2;have:=hno j _ hj (List.getElem?_eq_getElem (by omega));simp[this]
  rw[AS,this]
  ·refine goN ?_;have hwr:IntKind.i64.wrap ((i:Int)+1)=((i+1:Nat):Int):=by rw[kR (by omega) (by omega)];rfl
   refine⟨l.length-(i+1),_,_,by omega,⟨i+1,rfl,hil,fun j b hj hb=>?_,rfl,rfl⟩,zF _,Gh.sub ?_⟩;rcases Nat.lt_succ_iff_lt_or_eq.1 hj with hj |rfl;exact hno j b hj hb;rw[ha]at hb;cases hb;exact h2
   ·rw[<-hwr];(repeat refine⟨rfl,?_⟩);exact trivial
 refine goN ?_;refine⟨_,_,⟨?_,rfl,rfl⟩,zF _,Gh.sub trivial⟩;have hil:i=l.length:=by have:¬ (i:Int)<l.length:=(by simpa using h1);omega
 have:l.findIdx? q=none:=by rw[List.findIdx?_eq_none_iff];intro a ha;obtain⟨j,hj⟩:=List.getElem?_of_mem ha;exact hno j a (by rw[hil];exact(zG.1 hj).1) hj
 rw[AS,this]
theorem yq{h:List (Nat×B)}{nx K:Nat}{y:eE}(hg:gt h K=some (.row (bH nm y) 107))(a:eE):aO prog 103 (.agg (bH nm a)::[.ptr K 0 0]) ⟨h,nx⟩ (fun u σ'=>u=.bool (a.f==y.f)/\σ'=⟨h,nx⟩):=by
 refine aO.wf fun hw _=>?_;have hK:K<nx:=(hw _ _ hg).1
 haveI:SuC nx (nx+1):=⟨rfl⟩
 haveI:dK ((nx,.row (bH nm a) 107)::h) K (.row [.i6 y.f,pt nm y.to] 107):=⟨by rw[fY hK];exact hg⟩
 refine dF 9 HZ ?_;refine goN ?_;exact Kf hw rfl rfl rfl (fun k hk=>fY hk) (Nat.le_succ _) (by simp[aJ]) ⟨rfl,rfl⟩
end Go.Proofs
namespace Go.Proofs
open Go Go.Rx Go.Vx Tryz
set_option maxRecDepth 20000
set_option maxHeartbeats 4000000
set_option synthInstance.maxSize 4000
set_option synthInstance.maxHeartbeats 200000
def Re(p1:List Int)(z5:Int):Option ((List Int)):=
 a8 (qJ p1 0 z5) fun l6=>some l6
def Ho(p1:List Int):Nat->Int->Option ((List Int))
 |0,_=>none|m1+1,z4=>a8 (cond (decide (z4>0)) (a8 (aC p1 (IntKind.i64.wrap (z4-1))) fun mG=>some (mG==0)) (some false)) fun Ug=>cond Ug ((Ho p1 m1) (IntKind.i64.wrap (z4-1))) (Re p1 z4)
def Qs(n:Nat)(p1:List Int):Option ((List Int)):=
 Ho p1 n (p1.length:Int)
theorem ik(n:Nat)(p1:List Int)(r:(List Int))(J:Qs n p1=some r):cE prog 111 [.isl false (p1.map (cI .u64))] (.isl false (r.map (cI .u64))):=by
 unfold Qs at J;refine gY 21 HV ?_;refine go ?_;refine gL (fun m tm σ=>∃z4,Ho p1 m z4=some r/\tm=fr 21 [(0,.iM (cI .u64) p1),(3,.i6 z4)]/\σ=⟨[],0⟩) (fun tm σ=>∃z5,Re p1 z5=some r/\tm=fr 21 [(0,.iM (cI .u64) p1),(3,.i6 z5)]/\σ=⟨[],0⟩) n ⟨(p1.length:Int),J,rfl,rfl⟩ ?_ ?_;rintro _ _ ⟨z5,J,rfl,rfl⟩;unfold Re at J;obtain⟨l6,h7,J⟩:=aB J;obtain⟨h8,h9⟩:=Cv (cI .u64) .i64 h7;refine go ?_;refine bG (u:=.iM (cI .u64) l6) rfl (BK rfl nW (CL rfl) nW (UD (cI .u64) dR.h (bQ gR.h) (nY .u64) h8 h9)) ?_;exact gx J;rintro(_|m1) _ _ ⟨z4,J,rfl,rfl⟩;cases J;unfold Ho at J;obtain⟨Ug,fE,J⟩:=aB J;refine gn ?_;refine dU (fun tm σ=>tm=fr 21 [(0,.iM (cI .u64) p1),(3,.i6 z4),(15,.bool Ug)]/\σ=⟨[],0⟩) ?_ ?_;rintro _ _ ⟨rfl,rfl⟩;refine gF J ?_ ?_<;>intro gS J;refine go ?_;apply aL;refine go ?_;exact lC ⟨_,J,rfl,rfl⟩;refine go ?_;exact xC ⟨z4,J,rfl,rfl⟩;refine go ?_;rcases gB fE with⟨fA,fE⟩|⟨fA,fE⟩;obtain⟨mG,eW,fE⟩:=aB fE;obtain rfl:=sI fE;refine go ?_;refine aP eW ?_;refine go ?_;exact xC ⟨rfl,rfl⟩;exact gy fE
def Qt(p1:List Int)(p2:List Int)(n:Nat)(bZ:List Int):Option ((List Int)):=
 aH ((if(p2.length:Int)<(p1.length:Int)then(p2.length:Int)else(p1.length:Int)).toNat=bZ.length) (
 a8 (Qs n bZ) fun i8=>some i8)
def Fo(p1:List Int)(p2:List Int)(n:Nat):Nat->Int->(List Int)->Option ((List Int))
 |0,_,_=>none|m1+1,z9,gX=>
  cond (decide (z9<(((if(p2.length:Int)<(p1.length:Int)then(p2.length:Int)else(p1.length:Int)).toNat:Nat):Int))) (a8 (aC p1 z9) fun fU=>
   a8 (aC p2 z9) fun uN=>
   a8 (jM gX 0 ((if(p2.length:Int)<(p1.length:Int)then(p2.length:Int)else(p1.length:Int)).toNat) z9) fun rN=>(Fo p1 p2 n m1) (IntKind.i64.wrap (z9+1)) (gX.set z9.toNat (AY .u64 fU uN))) (Qt p1 p2 n gX)
def Pc(n:Nat)(p1:List Int)(p2:List Int):Option ((List Int)):=
 aH (0<=(if(p2.length:Int)<(p1.length:Int)then(p2.length:Int)else(p1.length:Int))/\8*(if(p2.length:Int)<(p1.length:Int)then(p2.length:Int)else(p1.length:Int)).toNat<=281474976710656/\(if(p2.length:Int)<(p1.length:Int)then(p2.length:Int)else(p1.length:Int))<=281474976710656) (
 Fo p1 p2 n n 0 (List.replicate (if(p2.length:Int)<(p1.length:Int)then(p2.length:Int)else(p1.length:Int)).toNat 0))
theorem ak(n:Nat)(p1:List Int)(p2:List Int)(r:(List Int))(J:Pc n p1 p2=some r):cE prog 78 [.isl false (p1.map (cI .u64)),.isl false (p2.map (cI .u64))] (.isl false (r.map (cI .u64))):=by
 unfold Pc at J;refine dF 33 ZT ?_;obtain⟨h3,J⟩:=bU J;refine go ?_;refine bG (u:=.i6 (if(p2.length:Int)<(p1.length:Int)then(p2.length:Int)else(p1.length:Int))) rfl (M4 rfl rfl rfl rfl rfl rfl rfl) (bG (u:=.sl 0 0 ((if(p2.length:Int)<(p1.length:Int)then(p2.length:Int)else(p1.length:Int)).toNat) ((if(p2.length:Int)<(p1.length:Int)then(p2.length:Int)else(p1.length:Int)).toNat)) (σ':=⟨[(0,.row (List.map (cI .u64) (List.replicate (if(p2.length:Int)<(p1.length:Int)then(p2.length:Int)else(p1.length:Int)).toNat 0)).flatten 213)],1⟩) rfl (Mb (cI .u64) 0 rfl rfl dR.h gR.h rfl rfl rfl rfl h3) ?_);refine go ?_;refine bG rfl (B6 rfl rfl rfl (Vo dR.h rfl)) ?_;refine go ?_;refine gL (fun m tm σ=>∃z9 gX,Fo p1 p2 n m z9 gX=some r/\tm=fr 33 [(0,.iM (cI .u64) p1),(1,.iM (cI .u64) p2),(5,.sl 0 0 ((if(p2.length:Int)<(p1.length:Int)then(p2.length:Int)else(p1.length:Int)).toNat) ((if(p2.length:Int)<(p1.length:Int)then(p2.length:Int)else(p1.length:Int)).toNat)),(14,.i6 (((if(p2.length:Int)<(p1.length:Int)then(p2.length:Int)else(p1.length:Int)).toNat:Nat):Int)),(15,.i6 z9)]/\σ=⟨[(0,.row (gX.map (cI .u64)).flatten 213)],1⟩) (fun tm σ=>∃bZ,Qt p1 p2 n bZ=some r/\tm=fr 33 [(5,.sl 0 0 ((if(p2.length:Int)<(p1.length:Int)then(p2.length:Int)else(p1.length:Int)).toNat) ((if(p2.length:Int)<(p1.length:Int)then(p2.length:Int)else(p1.length:Int)).toNat))]/\σ=⟨[(0,.row (bZ.map (cI .u64)).flatten 213)],1⟩) n ⟨0,(List.replicate (if(p2.length:Int)<(p1.length:Int)then(p2.length:Int)else(p1.length:Int)).toNat 0),J,rfl,rfl⟩ ?_ ?_;rintro _ _ ⟨bZ,J,rfl,rfl⟩;unfold Qt at J;obtain⟨eW,J⟩:=bU J;refine gn ?_;refine cR (tm':=fr 33 [(5,.iM (cI .u64) bZ)]) (σ':=⟨[],1⟩) (Gh.trans (Gh.sub (l':=[(5,.sl 0 0 ((if(p2.length:Int)<(p1.length:Int)then(p2.length:Int)else(p1.length:Int)).toNat) ((if(p2.length:Int)<(p1.length:Int)then(p2.length:Int)else(p1.length:Int)).toNat))]) ⟨rfl,trivial⟩) (Gh.fzS (l':=[(5,.iM (cI .u64) bZ)]) (h':=[]) 0 (.row (bZ.map (cI .u64)).flatten 213) 1 rfl (by simp) (by simp only[fzS,i9,D3,wU,CX,FQ,Q3,QD,V0,V2,V3,QE,CW,UK,Q4,Q2,PJ,CQ,Cc (nY .u64) eW]) (by simp only[fzH,fzB,ug,Nat.beq,zC,zD,i9,D3,wU,CX,FQ,Q3,QD,V0,V2,V3,QE,CW,UK,Q4,Q2,PJ,CQ,Cc (nY .u64) eW]))) NZ ?_;obtain⟨i8,fE,J⟩:=aB J;refine go ?_;refine aI rfl (pC (ik n bZ i8 fE) _) HV ?_;exact gx J;rintro(_|m1) _ _ ⟨z9,gX,J,rfl,rfl⟩;cases J;unfold Fo at J;refine gF J ?_ ?_<;>intro gS J;refine go ?_;apply aL;obtain⟨fU,fD,J⟩:=aB J;obtain⟨uN,g8,J⟩:=aB J;obtain⟨rN,nP,J⟩:=aB J;refine go ?_;refine dE [] ?_;refine gd ?_;refine bY fD ?_;refine gd ?_;refine bY g8 ?_;refine gd ?_;refine bB rfl (pO rfl rfl (Mg _ _ _) rfl) (bB rfl (eJ rfl rfl (wI dR.h (bQ gR.h) rfl nP)) (SN (u:=.junk) (σ':=⟨[(0,.row (List.map (cI .u64) (gX.set z9.toNat (AY .u64 fU uN))).flatten 213)],1⟩) rfl (Jz (cI .u64) (bQ gR.h) (nY .u64) rfl rfl rfl rfl rfl rfl nP rfl) rfl ?_));refine aZ ⟨by kernel_rfl,trivial,?_⟩;refine go ?_;exact lC ⟨_,(gX.set z9.toNat (AY .u64 fU uN)),J,rfl,rfl⟩;refine go ?_;exact xC ⟨gX,J,rfl,rfl⟩
def Ri: Option (Int):=
 some (-1)
def Ir(p1:List jH)(c2:List Int)(f1:jH->(List Int)->Option (Bool)):Nat->Int->Option (Int)
 |0,_=>none|m1+1,z6=>cond (decide (z6<(p1.length:Int))) (a8 (aC p1 z6) fun x8=>a8 (f1 x8 c2) fun oH=>cond oH (some z6) ((Ir p1 c2 f1 m1) (IntKind.i64.wrap (z6+1)))) (Ri)
def Rh(f1:jH->(List Int)->Option (Bool))(n:Nat)(p1:List jH)(c2:List Int):Option (Int):=
 Ir p1 c2 f1 n 0
theorem nn(f1:jH->(List Int)->Option (Bool))(hf1:∀(a0:jH)(a1:List Int)(r:Bool),f1 a0 a1=some r->aO prog 80 [.agg (iK a0),.iptr [.isl false (a1.map (cI .u64))]] ⟨[],0⟩ (fun u _=>u=.bool r/\aJ 0 u))(n:Nat)(p1:List jH)(c2:List Int)(r:Int)(J:Rh f1 n p1 c2=some r):cE prog 79 [.isl false (p1.map iK),.fn (.func 80) [] [.iptr [.isl false (c2.map (cI .u64))]]] (.int .i64 r):=by
 unfold Rh at J;have hf1S:∀(a0:jH)(a1:List Int)(r:Bool),f1 a0 a1=some r->∀ σ,aO prog 80 [.agg (iK a0),.iptr [.iM (cI .u64) a1]] σ (fun u σ'=>u=.bool r/\σ'=σ):=fun a0 a1 r h σ=>aO.pure1C (hf1 a0 a1 r h) σ;refine dF 19 ZS ?_;refine go ?_;refine gL (fun m tm σ=>∃z6,Ir p1 c2 f1 m z6=some r/\tm=fr 19 [(0,.iM iK p1),(1,.fn (.func 80) [] [.iptr [.iM (cI .u64) c2]]),(7,.i6 (p1.length:Int)),(8,.i6 z6)]/\σ=⟨[],0⟩) (fun tm σ=>Ri=some r/\tm=fr 19 []/\σ=⟨[],0⟩) n ⟨0,J,rfl,rfl⟩ ?_ ?_;rintro _ _ ⟨J,rfl,rfl⟩;unfold Ri at J;exact gx J;rintro(_|m1) _ _ ⟨z6,J,rfl,rfl⟩;cases J;unfold Ir at J;refine gF J ?_ ?_<;>intro h7 J;refine go ?_;apply aL;obtain⟨x8,h9,J⟩:=aB J;obtain⟨oH,iP,J⟩:=aB J;refine go ?_;refine aP h9 ?_;refine go ?_;refine RS.call (u:=.bool oH) (args:=[.agg (iK x8),.iptr [.iM (cI .u64) c2]]) rfl (wQ rfl rfl ZR hb80 rfl (rfl)) (hf1S x8 c2 oH iP _) rfl rfl ?_;refine gF J ?_ ?_<;>intro eW J;exact gx J;refine go ?_;exact lC ⟨_,J,rfl,rfl⟩;refine go ?_;exact xC ⟨J,rfl,rfl⟩
def Px(n:Nat)(p1:List Int)(p2:Int):Option (Int):=
 cond (decide (p2<(p1.length:Int))) (a8 (aC p1 p2) fun x4=>some x4) (some 0)
theorem dj(n:Nat)(p1:List Int)(p2:Int)(r:Int)(J:Px n p1 p2=some r):cE prog 153 [.isl false (p1.map (cI .u64)),.int .i64 p2] (.int .u64 r):=by
 unfold Px at J;refine dF 13 HJ ?_;refine gF J ?_ ?_<;>intro h3 J;obtain⟨x4,h5,J⟩:=aB J;refine go ?_;refine aP h5 ?_;exact gx J;exact gx J
def Rf: Option (Bool):=
 some true
def Hq(p1:List Int)(p2:List Int)(n:Nat):Nat->Int->Option (Bool)
 |0,_=>none|m1+1,z7=>cond (decide (z7<(p1.length:Int))) (a8 (aC p1 z7) fun x9=>a8 (Px n p2 z7) fun m6=>cond ((KS .u64 x9 m6) != 0) (some false) ((Hq p1 p2 n m1) (IntKind.i64.wrap (z7+1)))) (Rf)
def Fm(n:Nat)(p1:List Int)(p2:List Int):Option (Bool):=
 Hq p1 p2 n n 0
theorem js(n:Nat)(p1:List Int)(p2:List Int)(r:Bool)(J:Fm n p1 p2=some r):cE prog 112 [.isl false (p1.map (cI .u64)),.isl false (p2.map (cI .u64))] (.bool r):=by
 unfold Fm at J;refine dF 21 yW ?_;refine go ?_;refine gL (fun m tm σ=>∃z7,Hq p1 p2 n m z7=some r/\tm=fr 21 [(1,.iM (cI .u64) p2),(7,.iM (cI .u64) p1),(8,.i6 (p1.length:Int)),(9,.i6 z7)]/\σ=⟨[],0⟩) (fun tm σ=>Rf=some r/\tm=fr 21 []/\σ=⟨[],0⟩) n ⟨0,J,rfl,rfl⟩ ?_ ?_;rintro _ _ ⟨J,rfl,rfl⟩;unfold Rf at J;exact gx J;rintro(_|m1) _ _ ⟨z7,J,rfl,rfl⟩;cases J;unfold Hq at J;refine gF J ?_ ?_<;>intro h8 J;refine go ?_;apply aL;obtain⟨x9,fA,J⟩:=aB J;refine go ?_;refine aP fA ?_;obtain⟨m6,eW,J⟩:=aB J;refine go ?_;refine aI rfl (pC (dj n p2 z7 m6 eW) _) HJ (bG rfl (pO rfl rfl (zm _ _ _) rfl) ?_);refine gF J ?_ ?_<;>intro cX J;exact gx J;refine go ?_;exact lC ⟨_,J,rfl,rfl⟩;refine go ?_;exact xC ⟨J,rfl,rfl⟩
def Ql(n:Nat)(p1:List Int)(p2:List Int):Option (Bool):=
 a8 (a8 (Fm n p1 p2) fun r3=>cond r3 (a8 (Fm n p2 p1) fun r6=>some r6) (some false)) fun b8=>some b8
theorem fj(n:Nat)(p1:List Int)(p2:List Int)(r:Bool)(J:Ql n p1 p2=some r):cE prog 81 [.isl false (p1.map (cI .u64)),.isl false (p2.map (cI .u64))] (.bool r):=by
 unfold Ql at J;refine dF 13 ZQ ?_;obtain⟨b8,h9,J⟩:=aB J;refine gr ?_;refine dU (fun tm σ=>tm=fr 13 [(4,.bool b8)]/\σ=⟨[],0⟩) ?_ ?_;rintro _ _ ⟨rfl,rfl⟩;exact gx J;obtain⟨r3,h4,h9⟩:=aB h9;refine go ?_;refine aI rfl (pC (js n p1 p2 r3 h4) _) yW ?_;refine go ?_;rcases gB h9 with⟨h5,h9⟩|⟨h5,h9⟩;obtain⟨r6,h7,h9⟩:=aB h9;obtain rfl:=sI h9;refine go ?_;refine aI rfl (pC (js n p2 p1 r6 h7) _) yW ?_;refine go ?_;exact xC ⟨rfl,rfl⟩;exact gy h9
def Fk(n:Nat)(p1:jH)(c2:List Int):Option (Bool):=
 a8 (Ql n p1.Code c2) fun r3=>some r3
theorem ij(n:Nat)(p1:jH)(c2:List Int)(r:Bool)(J:Fk n p1 c2=some r):cE prog 80 [.agg (iK p1),.iptr [.isl false (c2.map (cI .u64))]] (.bool r):=by
 unfold Fk at J;refine dF 8 ZR ?_;obtain⟨r3,h4,J⟩:=aB J;refine go ?_;refine aI rfl (pC (fj n p1.Code c2 r3 h4) _) ZQ ?_;exact gx J
def Ps(n:Nat)(p1:dY)(p2:Int)(p3:Int):Option (Int×Bool):=
 a8 (aC p1.Types p2) fun x4=>
 a8 (aC p1.Types p3) fun x6=>
 a8 (Pc n x4.Code x6.Code) fun r8=>cond ((r8.length:Int)==0) (some (0,false)) (a8 (Rh (Fk n) n p1.Types r8) fun m6=>cond (decide (m6<0)) (some (0,false)) (some (m6,true)))
theorem dc(n:Nat)(p1:dY)(p2:Int)(p3:Int)(r:Int×Bool)(J:Ps n p1 p2 p3=some r):cE prog 53 [.agg (iY p1),.int .i64 p2,.int .i64 p3] (.tup [.int .i64 r.1,.bool r.2]):=by
 unfold Ps at J;refine EI 33 Ac ?_;obtain⟨x4,h5,J⟩:=aB J;obtain⟨x6,h7,J⟩:=aB J;obtain⟨r8,h9,J⟩:=aB J;refine go ?_;refine dE [(0,13),(1,13),(2,13),(3,13),(4,13),(5,13),(6,13),(7,13),(8,13),(9,13),(10,13),(11,13)] ?_;refine gd ?_;refine bY h5 ?_;refine gd ?_;refine bY h7 ?_;refine gd ?_;refine gZ rfl (pC (ak n x4.Code x6.Code r8 h9)) ZT ?_;refine dT ?_;refine pI ?_;refine aZ ⟨by kernel_rfl,⟨qN nD.h rfl (bQ N8.h) rfl rfl rfl,⟨CV vV.h rfl rfl rfl rfl,⟨lJ rfl,⟨eJ rfl rfl (PZ iK vV.h (bQ xY.h) Qe h5 rfl),⟨Kg vY.h rfl (bQ k9.h) rfl rfl,⟨UI dR.h rfl rfl rfl,⟨qN nD.h rfl (bQ N8.h) rfl rfl rfl,⟨CV vV.h rfl rfl rfl rfl,⟨lJ rfl,⟨eJ rfl rfl (PZ iK vV.h (bQ xY.h) Qe h7 rfl),⟨Kg vY.h rfl (bQ k9.h) rfl rfl,⟨UI dR.h rfl rfl rfl,trivial⟩⟩⟩⟩⟩⟩⟩⟩⟩⟩⟩⟩,?_⟩;refine gF J ?_ ?_<;>intro fA J;refine go ?_;obtain rfl:=sI J;exact CH rfl rfl rfl rfl rfl;obtain⟨m6,eW,J⟩:=aB J;refine go ?_;refine bG rfl (Cj rfl rfl) (aI rfl (vw (nn (Fk n) (ij n) n p1.Types r8 m6 eW) (mF 1 1)) ZS ?_);refine gF J ?_ ?_<;>intro cX J;refine go ?_;obtain rfl:=sI J;exact CH rfl rfl rfl rfl rfl;refine go ?_;obtain rfl:=sI J;exact CH rfl rfl rfl rfl rfl
def cW(nm:Nat->Nat)(w:Nat×Nat):List U:=[pt nm w.1,pt nm w.2]
inductive WK(nm:Nat->Nat)(nx:Nat)(W:List (Nat×Nat))(u:U)(H:List (Nat×B)):Prop
 |vl (K st off:Nat) (xs:List (Nat×Nat)) (hu:u=.vl K st off W.length) (hg:gt H K=some (.bv (cW nm) xs 200 2 st)) (hx:xs.drop off=W) (ho:off<=xs.length) (hz:off=0\/W≠[]) (hK:nx<=K)
 |em (hu:u=.isl true []) (hW:W=[])
variable{nm:Nat->Nat}
variable{nx:Nat}
variable{W:List (Nat×Nat)}
variable{u:U}
variable{H:List (Nat×B)}
theorem WK.len{N:Nat}(w:WK nm nx W u H):oI tb ⟨H,N⟩ 201 u=some (.int .i64 W.length):=by
 cases w with|vl K st off xs hu hg hx ho hz hK=>subst hu;exact MC gM.h hg|em hu hW=>subst hu;subst hW;exact Xy (cW nm) gM.h (xs:=[])
theorem mz{m:Nat}(h:1<=m):dN m m (some (.int .i64 1)) none none=some (1,m,m):=by
 have h1:kG 1 (m+1)=true:=B9 ⟨by omega,by omega⟩;simp[dN,eS,h1]
variable{n:Nat}
theorem WK.cut{C:PG}(hT:eZ C.prog tb){w:Nat×Nat}{N:Nat}{l:List (Nat×U)}{o:Oper}{xo:Operand}(wk:WK nm nx (w::W) u H)(ho:o.op=.slice 201 xo (some (.const (.int .i64 1))) none none)(hx:aY n l xo=some u):
  dM C ⟨H,N⟩ (fr n l) o (fun u' σ'=>∃H' K,σ'=⟨H',N⟩/\WK nm nx W u' H'/\nx<=K/\(∃q s,gt H K=some (.vec q 200 2 s))/\∀k,k≠K->gt H' k=gt H k):=by
 cases wk with|em hu hW=>cases hW|vl K st off xs hu hg hxs ho' hz hK=>
 subst hu;have hlen:xs.length=off+(W.length+1):=by have:=congrArg List.length hxs;rw[List.length_drop]at this;simp at this;omega
 have hfl:(xs.map (cW nm)).flatten.length=xs.length*2:=tO (c:=cW nm) (fun _=>rfl) xs;have hdrop:xs.drop (off+1)=W:=by have:=congrArg List.tail hxs;simpa[List.tail_drop]using this
 cases W with
 |nil=>refine(dM.cut0 hT ho gM.h (bQ lM.h) (cB hx) rfl hg (by rw[hfl];simp at hlen;omega)).mono ?_;rintro u' s (⟨rfl,rfl⟩|⟨rfl,rfl⟩);exact⟨_,K,rfl,.vl K (st+1) 0 [] rfl (by rw[bL,if_pos rfl,hg];rfl) rfl (zF _) (.inl rfl) hK,hK,⟨_,_,hg⟩,fun k hk=>by rw[bL,if_neg (Ne.symm hk)]⟩;exact⟨_,K,rfl,.em rfl rfl,hK,⟨_,_,hg⟩,fun k hk=>rfl⟩
 |cons w2 W=>
  have hop:aV tb ⟨H,N⟩ (fr n l) o.op=some (.vl K st (off+1) (w2::W).length,⟨H,N⟩):=by rw[ho];refine BK hx rfl rfl rfl ?_;have:=U3 (σ:=⟨H,N⟩) (cW nm) gM.h (bQ lM.h) (fun _=>rfl) (K:=K) (st:=st) (off:=off) (m:=(w::w2::W).length) (xs:=xs) (e':=200) (by simp[iU,hg,B.bv]) (by simp at hlen ⊢;omega) (mz (by simp));rw[this];simp
  refine(dM.op hT hop).mono ?_;rintro u' s ⟨rfl,rfl⟩;exact⟨H,K,rfl,.vl K st (off+1) xs rfl hg hdrop (by simp at hlen;omega) (.inr (by simp)) hK,hK,⟨_,_,hg⟩,fun k hk=>rfl⟩
def SA(g:Int)(p:Nat)(mine:List eE):List eE->List (Nat×Nat)->List PN->Option (List (Nat×Nat)×List PN)
 |[],W,N=>some (W,N)|y::ys,W,N=>cond (decide (AS (fun z=>z.f==y.f) mine>=0)) (a8 (aC mine (AS (fun z=>z.f==y.f) mine)) fun z=>aH (W.length<=1000000) (SA g p mine ys (W++[(z.to,y.to)]) N)) (a8 N[p]? fun x=>aH ((nJ g x).length<=1000000) (SA g p mine ys W (N.set p { x with more:=nJ g x++[y],moA:=g })))
def IK(H:dY)(g:Int)(n:Nat):Nat->List (Nat×Nat)->List PN->Option (Bool×List PN)
 |0,_,_=>none|_+1,[],N=>some (true,N)
 |m+1,w::W,N=>
  a8 (qM N g n w.1) fun p=>
  a8 (qM N g n w.2) fun q=>cond (Nat.beq p q) (IK H g n m W N) (a8 N[p]? fun x=>
   a8 N[q]? fun y=>
   a8 (Ps n H (jP g x) (jP g y)) fun r=>cond (!r.2) (some (false,N)) (aH ((cG g x).length<=1000000/\(cG g y).length<=1000000) (a8 (SA g p (cG g x) (cG g y) W N) fun s=>
    a8 s.2[p]? fun x1=>
    a8 (s.2.set p { x1 with mt:=r.1,mtA:=g })[q]? fun y1=>
    IK H g n m s.1 ((s.2.set p { x1 with mt:=r.1,mtA:=g }).set q { y1 with fw:=some p,fwA:=g }))))
section
variable{kp kr st:Nat}{nm:Nat->Nat}{P:PP}{h:List (Nat×B)}{nx:Nat}
variable{i:Nat}
variable{x:PN}
theorem PH.upd(p:PH kp kr st nm P h){y:PN}(hx:P.N[i]? = some x)(hy:gJ P.N.length y)(h1:gt H (nm i)=some (.row (jJ nm y) 103))(h2:∀k b,gt h k=some b->k≠nm i->gt H k=some b):PH kp kr st nm { P with N:=P.N.set i y } H:=by
 have hi:i<P.N.length:=(zG.1 hx).1;have hn:=p.node i x hx;refine⟨h2 _ _ p.pool fun e=>?_,h2 _ _ p.roots fun e=>?_,fun j z hz=>?_,fun a b ha hb=>p.inj a b (by simpa using ha) (by simpa using hb),fun z hz=>?_,fun r hr=>by simpa using p.rt r hr⟩;have:=p.pool;rw[e,hn]at this;simp at this;have:=p.roots;rw[e,hn]at this;cases this;rw[List.getElem?_set]at hz;by_cases e:i=j;subst e;rw[if_pos rfl,if_pos hi]at hz;cases hz;exact h1;rw[if_neg e]at hz;have hj:j<P.N.length:=(zG.1 hz).1;exact h2 _ _ (p.node j z hz) fun e2=>e (p.inj i j hi hj e2.symm);have hlen:(P.N.set i y).length=P.N.length:=by simp
 show gJ (P.N.set i y).length z;rw[hlen];rcases List.mem_or_eq_of_mem_set hz with hz |rfl;exact p.wf z hz;exact hy
theorem PH.keep(p:PH kp kr st nm P h){K:Nat}{q:List U}{s:Nat}(hK:gt h K=some (.vec q 200 2 s))(h2:∀k b,gt h k=some b->k≠K->gt H k=some b):PH kp kr st nm P H:=by
 have hne:∀k b,gt h k=some b->(∀q s,b≠.vec q 200 2 s)->gt H k=some b:=fun k b hb hn=>h2 k b hb fun e=>by rw[e,hK]at hb;cases hb;exact hn _ _ rfl
 exact⟨hne _ _ p.pool (by simp),hne _ _ p.roots (by simp[cD]),fun i x hx=>hne _ _ (p.node i x hx) (by simp),p.inj,p.wf,p.rt⟩
theorem PH.put(p:PH kp kr st nm P h)(y:PN)(hx:P.N[i]? = some x)(hy:gJ P.N.length y):PH kp kr st nm { P with N:=P.N.set i y } (ug h (nm i) (.row (jJ nm y) 103)):=
 p.upd hx hy (by rw[bL,if_pos rfl,p.node i x hx];rfl) fun k b hb hk=>by rw[bL,if_neg (Ne.symm hk)];exact hb
theorem WK.keep{nx:Nat}(w:WK nm nx W u h)(h2:∀k q s,gt h k=some (.vec q 200 2 s)->gt H k=some (.vec q 200 2 s)):WK nm nx W u H:=by
 cases w with|vl K st off xs hu hg hx ho hz hK=>exact .vl K st off xs hu (h2 _ _ _ hg) hx ho hz hK|em hu hW=>exact .em hu hW
theorem WK.put(p:PH kp kr st nm P h){xG:Nat}(w:WK nm xG W u h)(hx:P.N[i]? = some x)(b:B):WK nm xG W u (ug h (nm i) b):=
 w.keep fun k q s hk=>by rw[bL,if_neg fun e=>?_];exact hk;rw[<-e,p.node i x hx]at hk;cases hk
theorem PH.more(p:PH kp kr st nm P h)(h2:∀k b,gt h k=some b->gt H k=some b):PH kp kr st nm P H :=
 ⟨h2 _ _ p.pool,h2 _ _ p.roots,fun i x hx=>h2 _ _ (p.node i x hx),p.inj,p.wf,p.rt⟩
theorem US{g:Int}(w:gJ n x):∀a∈cG g x,a.to<n:=fun a ha=>by
 rcases yD.1 ha with ha |ha;exact w.arcs a ha;unfold nJ at ha;rcases hb:x.moA != g with _|_;rw[hb]at ha;exact w.more a ha;rw[hb]at ha;cases ha
theorem Ws{g:Int}(w:gJ n x):∀a∈nJ g x,a.to<n:=fun a ha=>US (g:=g) w a (yD.2 (.inr ha))
theorem Q7{nm:Nat->Nat}{M:Nat}(hn:∀k,k<n->nm k<M):∀{o:Option Nat},EL n o->aJ M (po nm o)
 |none,_=>trivial|some i,h=>hn i h
theorem WK.bel{nx:Nat}{M:Nat}(w:WK nm nx W u h)(hw:jA ⟨h,M⟩):aJ M u:=by
 cases w with|vl K st off xs hu hg hx ho hz hK=>subst hu;exact(hw K _ hg).1|em hu hW=>subst hu;simp[aJ,fW]
theorem Eh{N:List PN}{g:Int}:∀{n i r:Nat},qM N g n i=some r->∃x,N[r]? = some x
 |0,_,_,h=>by cases h
 |n+1,i,r,h=>by
  obtain⟨x,hx,h⟩:=aB h;cases hb:x.fwA != g with
  |true=>rw[hb]at h;obtain rfl:=sI h;exact⟨x,hx⟩
  |false=>rw[hb]at h;obtain⟨q,_,h⟩:=aB h;exact Eh h
theorem J0(p:PH kp kr st nm P h)(n:Nat){a b:Nat}{r:Bool×List PN}(J:IK P.H P.gen n n [(a,b)] P.N=some r):
  aO prog 65 [.ptr kp 0 0,pt nm a,pt nm b] ⟨h,nx⟩ (fun u σ'=>∃H N,u=.bool r.1/\σ'=⟨H,N⟩/\PH kp kr st nm { P with N:=r.2 } H/\r.2.length=P.N.length/\nx<=N/\∀k,k<nx->(∀i,i<P.N.length->nm i≠k)->gt H k=gt h k):=by
 refine aO.wf fun oU _=>?_;refine EI 129 ZX ?_;refine goN ?_;refine RS.w (u:=.agg [pt nm a,pt nm b]) rfl (VE (qs:=[(0,pt nm a),(1,pt nm b)]) rfl (by kernel_rfl)) ?_;refine goN ?_;refine RS.step (u:=.vl nx 0 0 1) (σ':=⟨(nx,.bv (cW nm) [(a,b)] 200 2 0)::h,nx+1⟩) rfl ?_ rfl rfl ?_;exact dM.bslv (k:=1) (cs:=(List.map (cW nm) [(a,b)]).flatten) tb_ok rfl gM.h lM.h rfl rfl rfl rfl rfl rfl rfl rfl;refine goN ?_;have p0:PH kp kr st nm P ((nx,.bv (cW nm) [(a,b)] 200 2 0)::h):=p.more fun k b hb=>by rw[fY (oU k b hb).1];exact hb
 refine gL (fun m tm σ=>∃W N uw H N1,IK P.H P.gen n m W N=some r/\tm=fr 129 [(0,.ptr kp 0 0),(7,uw)]/\σ=⟨H,N1⟩/\PH kp kr st nm { P with N:=N } H/\WK nm nx W uw H/\N.length=P.N.length/\nx<=N1/\∀k,k<nx->(∀i,i<P.N.length->nm i≠k)->gt H k=gt h k)
  (fun tm σ=>tm=fr 129 []/\r.1=true/\∃H N1,σ=⟨H,N1⟩/\PH kp kr st nm { P with N:=r.2 } H/\r.2.length=P.N.length/\nx<=N1/\∀k,k<nx->(∀i,i<P.N.length->nm i≠k)->gt H k=gt h k) n
  ⟨[(a,b)],P.N,.vl nx 0 0 1,_,_,J,rfl,rfl,p0,.vl nx 0 0 [(a,b)] rfl (by simp[aK]) rfl (Nat.zero_le _) (.inl rfl) (zF _),rfl,Nat.le_succ _,fun k hk _=>fY hk⟩ ?_ ?_ (Nat.le_succ _)
 rintro _ _ ⟨rfl,h1,H,N1,rfl,h2,h3,h4,h5⟩;refine goN ?_;exact rY rfl rfl rfl h4 ⟨H,N1,by rw[h1],rfl,h2,h3,h4,h5⟩;rintro(_ |m) _ _ ⟨W,N,uw,H,N1,J,rfl,rfl,hp,hwk,hlen,hnx,hfr⟩;cases J;refine goN ?_;refine RS.w rfl (B6 rfl rfl rfl hwk.len) ?_;refine goN ?_;cases W with
 |nil=>obtain rfl:=sI J;refine cU rfl (fun h1=>by cases h1) (fun h1=>?_);refine goN ?_;exact⟨_,_,⟨rfl,rfl,H,N1,rfl,hp,hlen,hnx,hfr⟩,hnx,Gh.sub trivial⟩
 |cons w W=>
 cases hwk with|em hu hW=>cases hW|vl K st' off xs hu hg hx ho hz hK=>
 subst hu;have pY:jM xs off (w::W).length 0=some w:=by rw[jM,if_pos ⟨by omega,by simp⟩];have:=congrArg (fun l=>l[0]?) hx;simpa using this
 have hv:iU ⟨H,N1⟩ K st'=some ((xs.map (cW nm)).flatten,200,2):=by simp[iU,hg,B.bv]
 have hlv:live ⟨H,N1⟩ K st'=true:=by simp[live,hg,B.bv,B.st]
 refine cU rfl (fun h1=>?_) (fun h1=>by simp at h1);obtain⟨i,hi,J⟩:=aB J;obtain⟨j,hj,J⟩:=aB J;refine goN ?_;apply aL;refine goN ?_;refine dE [] ?_;refine c8 ?_;refine bB rfl (eJ rfl rfl (GU (cW nm) gM.h (bQ lM.h) (by decide) (fun _=>rfl) hv pY)) ?_;refine bB (u:=.ptr K st' (off*2+(0:Int).toNat*2+0)) rfl (eJ rfl rfl (GV F2.h (bQ eU.h) hlv ⟨by decide,by decide⟩ rfl)) ?_;refine bB (u:=pt nm w.1) rfl (PI (cW nm) eA.h rfl (fun _=>rfl) rfl hg pY rfl) (RD.call rfl (eG rfl p9 rfl).2 (BE hp n hi) rfl rfl ?_);refine c8 ?_;refine bB rfl (eJ rfl rfl (GU (cW nm) gM.h (bQ lM.h) (by decide) (fun _=>rfl) hv pY)) ?_;refine bB (u:=.ptr K st' (off*2+(0:Int).toNat*2+1)) rfl (eJ rfl rfl (GV F2.h (bQ eU.h) hlv ⟨by decide,by decide⟩ rfl)) ?_;refine bB (u:=pt nm w.2) rfl (PI (cW nm) eA.h rfl (fun _=>rfl) rfl hg pY rfl) (RD.call rfl (eG rfl p9 rfl).2 (BE hp n hj) rfl rfl ?_);refine c8 ?_;refine aZ ⟨by kernel_rfl,trivial,?_⟩;refine goN ?_;refine sV rfl (WK.cut tb_ok (.vl K st' off xs rfl hg hx ho hz hK) rfl rfl) ?_;rintro uw _ ⟨H',K',rfl,hwk,hK',⟨q',s',hq'⟩,hsame⟩;have hp':=hp.keep hq' (fun k b hb hk=>by rw[hsame k hk];exact hb);have hfr':∀k,k<nx->(∀i,i<P.N.length->nm i≠k)->gt H' k=gt h k:=fun k hk hn=>by rw[hsame k (by omega),hfr k hk hn]
 clear hfr hsame hq' hg hx ho hz pY hv hlv hp;obtain⟨x,hx⟩:=Eh hi;obtain⟨y,hy⟩:=Eh hj;have hil:i<N.length:=(zG.1 hx).1;have hjl:j<N.length:=(zG.1 hy).1;have hbeq:Nat.beq (nm i) (nm j)=Nat.beq i j:=by rw[beq_eq,beq_eq];by_cases e:i=j;simp[e];have:nm i≠nm j:=fun h=>e (hp'.inj i j hil hjl h);simp[e,this]
 refine goN ?_;refine sV rfl (dM.peq tb_ok rfl (.inl rfl) eA.h (bQ iG.h) (cB rfl) (cB rfl) (hp'.node i x hx) (hp'.node j y hy)) ?_;rintro _ _ ⟨rfl,rfl⟩;refine goN ?_;refine cU rfl (fun h2=>?_) (fun h2=>?_)
 ·rw[if_pos rfl,hbeq]at h2;rw[h2]at J;refine goN ?_;exact⟨m,_,_,zN _,⟨W,N,uw,H',N1,J,rfl,rfl,hp',hwk,hlen,hnx,hfr'⟩,hnx,Gh.sub (by((repeat refine⟨rfl,?_⟩);exact trivial))⟩
 rw[if_pos rfl,hbeq]at h2;rw[h2]at J;obtain⟨x',hx',J⟩:=aB J;rw[hx]at hx';cases hx';obtain⟨y',hy',J⟩:=aB J;rw[hy]at hy';cases hy';obtain⟨r1,hr1,J⟩:=aB J
 haveI:=hp'.gp
 refine goN ?_;refine dE [] ?_;refine c8 ?_;refine RD.call rfl (eG rfl oZ rfl).2 (UZ hp' hx) rfl rfl ?_;refine c8 ?_;refine RD.call rfl (eG rfl oZ rfl).2 (UZ hp' hy) rfl rfl ?_;refine c8 ?_;refine gZ rfl (pC (dc n P.H _ _ r1 hr1)) Ac ?_;refine c8 ?_;refine aZ ⟨by kernel_rfl,trivial,?_⟩;refine goN ?_;refine cU rfl (fun h3=>?_) (fun h3=>?_);rw[h3]at J;obtain rfl:=sI J;refine goN ?_;exact rY rfl rfl rfl hnx ⟨H',N1,rfl,rfl,hp',hlen,hnx,hfr'⟩;rw[h3]at J;obtain⟨⟨C4,GX⟩,J⟩:=bU J;obtain⟨s,hs,J⟩:=aB J;have hys:∀a∈cG P.gen y,a.to<P.N.length:=by rw[<-hlen];exact US (hp'.wf y (zX hy))
 refine goN ?_;refine aI rfl (Oa hp' hx C4) uB ?_;refine goN ?_;refine aI rfl (Oa hp' hy GX) uB ?_;refine goN ?_;refine gL (fun m tm σ=>∃(t:Nat)(W1:List (Nat×Nat))(N2:List PN)(vR:U)(H1:List (Nat×B))(M1:Nat),m=(cG P.gen y).length-t/\t<=(cG P.gen y).length/\SA P.gen i (cG P.gen x) ((cG P.gen y).drop t) W1 N2=some s/\tm=fr 129 [(0,.ptr kp 0 0),(7,vR),(8,pt nm i),(9,pt nm j),(10,.i6 r1.1),(12,.iM (bH nm) (cG P.gen x)),(63,.iM (bH nm) (cG P.gen y)),(64,.i6 (cG P.gen y).length),(65,.i6 t)]/\σ=⟨H1,M1⟩/\PH kp kr st nm { P with N:=N2 } H1/\WK nm nx W1 vR H1/\N2.length=P.N.length/\nx<=M1/\∀k,k<nx->(∀i,i<P.N.length->nm i≠k)->gt H1 k=gt h k)
  (fun tm σ=>∃(vR:U)(H1:List (Nat×B))(M1:Nat),tm=fr 129 [(0,.ptr kp 0 0),(7,vR),(8,pt nm i),(9,pt nm j),(10,.i6 r1.1)]/\σ=⟨H1,M1⟩/\PH kp kr st nm { P with N:=s.2 } H1/\WK nm nx s.1 vR H1/\s.2.length=P.N.length/\nx<=M1/\∀k,k<nx->(∀i,i<P.N.length->nm i≠k)->gt H1 k=gt h k) (cG P.gen y).length
  ⟨0,W,N,uw,H',N1,rfl,Nat.zero_le _,hs,rfl,rfl,hp',hwk,hlen,hnx,hfr'⟩ ?_ ?_ hnx
 ·rintro _ _ ⟨vR,H1,M1,rfl,rfl,j7,qZ,hlen1,oV,oX⟩;obtain⟨x1,NA,J⟩:=aB J;obtain⟨y1,N9,J⟩:=aB J
  haveI:=j7.gp
  haveI:=j7.gn NA
  refine goN ?_;have dZ:=j7.wf x1 (zX NA);have kW:=j7.put { x1 with mt:=r1.1,mtA:=P.gen } NA ⟨dZ.arcs,dZ.fw,dZ.more,dZ.cp⟩;have Z0:=WK.put j7 qZ NA (.row (jJ nm { x1 with mt:=r1.1,mtA:=P.gen }) 103);change RU _ _ _ _ _ (Sg.mk (ug H1 (nm i) (.row (jJ nm { x1 with mt:=r1.1,mtA:=P.gen }) 103)) M1) _
  haveI:=kW.gp
  haveI:=kW.gn N9
  refine goN ?_;have kT:=kW.wf y1 (zX N9);have NE:=kW.put { y1 with fw:=some i,fwA:=P.gen } N9 ⟨kT.arcs,by show i<_;simp;rw[hlen1,<-hlen];exact hil,kT.more,kT.cp⟩;have Si:=WK.put kW Z0 N9 (.row (jJ nm { y1 with fw:=some i,fwA:=P.gen }) 103);refine⟨m,_,_,zN _,⟨s.1,_,vR,_,M1,J,rfl,rfl,NE,Si,by simp[hlen1],oV,fun k hk hn=>?_⟩,oV,Gh.sub (by((repeat refine⟨rfl,?_⟩);exact trivial))⟩;rw[bL,if_neg (hn j (by rw[<-hlen];exact hjl)),bL,if_neg (hn i (by rw[<-hlen];exact hil))];exact oX k hk hn
 rintro _ _ _ ⟨t,W1,N2,vR,H1,M1,rfl,ht,hpi,rfl,rfl,j7,qZ,hlen1,oV,oX⟩;refine goN ?_;refine cU rfl (fun h4=>?_) (fun h4=>?_)
 ·have htl:t<(cG P.gen y).length:=by simpa using h4
  obtain⟨ya,hya⟩:∃a,(cG P.gen y)[t]? = some a:=⟨_,List.getElem?_eq_getElem htl⟩;have hid:aC (cG P.gen y) (t:Int)=some ya:=by rw[aC,if_pos ⟨by omega,by omega⟩];simpa using hya
  have hdr:(cG P.gen y).drop t=ya::(cG P.gen y).drop (t+1):=by rw[List.drop_eq_getElem_cons htl];rw[List.getElem?_eq_getElem htl]at hya;cases hya;rfl
  rw[hdr]at hpi;refine WPU.wf fun dZ hbt=>?_
  haveI:SuC M1 (M1+1):=⟨rfl⟩
  haveI:SuC (M1+1) (M1+2):=⟨rfl⟩
  refine goN ?_;apply aL;refine goN ?_;refine aP hid ?_;refine goN ?_;refine RS.w rfl (Cj rfl rfl) ?_;refine aI rfl (Vs HZ hb103 C4 (fun a _=>yq (y:=ya) (by simp[aK]) a)) yZ ?_;refine goN ?_;have hH:∀k b,gt H1 k=some b->gt ((M1,.row (bH nm ya) 107)::H1) k=some b:=fun k b hb=>by rw[fY (dZ k b hb).1];exact hb
  have kW:=j7.more hH;have Z0:=qZ.keep fun k q s hk=>hH k _ hk;change cond (decide (AS (fun z=>z.f==ya.f) (cG P.gen x)>=0)) _ _=some s at hpi;refine cU rfl (fun h5=>?_) (fun h5=>?_)
  ·rw[h5]at hpi;obtain⟨z,hz,hpi⟩:=aB hpi;obtain⟨hWl,hpi⟩:=bU hpi;refine goN ?_;cases qZ with
   |vl K st' off xs hu hg hx ho Se hK=>
    subst hu;have hKM:K<M1:=(dZ K _ hg).1;have nN:gt ((M1+1,.row [pt nm z.to,pt nm ya.to] 200)::(M1,.row (bH nm ya) 107)::H1) K=some (.vec (xs.map (cW nm)).flatten 200 2 st'):=by rw[aK,if_neg (by omega),aK,if_neg (by omega)];exact hg
    refine dE [(0,9)] ?_;refine c8 ?_;refine bY hz ?_;refine c8 ?_;refine bB (u:=.agg [pt nm z.to,pt nm ya.to]) rfl (VE (qs:=[(0,pt nm z.to),(1,pt nm ya.to)]) rfl (by kernel_rfl)) ?_;refine dT ?_;refine RD.act rfl (m8 rfl rfl rfl rfl (OV (cW nm) [(z.to,ya.to)] gM.h gM.h lM.h rfl (fun _=>rfl) nN hx ho Se (by simp) (vA (cW nm) [(z.to,ya.to)] (q:=[pt nm z.to,pt nm ya.to]) (by simp[rowOf,aK]) rfl rfl rfl) ⟨by simp;omega,by simp;omega⟩)) rfl rfl ?_;refine c8 ?_;refine aZ ⟨by kernel_rfl,⟨lJ rfl,trivial⟩,?_⟩;refine goN ?_;refine⟨(cG P.gen y).length-(t+1),_,_,by omega,⟨t+1,W1++[(z.to,ya.to)],N2,.vl K (st'+1) 0 (W1++[(z.to,ya.to)]).length,_,M1+2,rfl,htl,hpi,rfl,rfl,?_,?_,hlen1,by omega,?_⟩,by show nx<=M1+2;omega,Gh.sub ?_⟩;refine j7.keep hg fun k b hb hk=>?_;have:k<M1:=(dZ k b hb).1;rw[bL,if_neg (Ne.symm hk),aK,if_neg (by omega),aK,if_neg (by omega)];exact hb;exact .vl K (st'+1) 0 (W1++[(z.to,ya.to)]) rfl (by rw[bL,if_pos rfl,nN];rfl) rfl (Nat.zero_le _) (.inl rfl) hK;intro k hk hn;rw[bL,if_neg (by omega),aK,if_neg (by omega),aK,if_neg (by omega)];exact oX k hk hn
    ·have hwr:IntKind.i64.wrap ((t:Int)+1)=((t+1:Nat):Int):=by rw[kR (by omega) (by omega)];rfl
     rw[<-hwr];(repeat refine⟨rfl,?_⟩);exact trivial
   |em hu hW=>
    subst hu;subst hW
    haveI:SuC (M1+2) (M1+3):=⟨rfl⟩
    refine dE [(0,9)] ?_;refine c8 ?_;refine bY hz ?_;refine c8 ?_;refine bB (u:=.agg [pt nm z.to,pt nm ya.to]) rfl (VE (qs:=[(0,pt nm z.to),(1,pt nm ya.to)]) rfl (by kernel_rfl)) ?_;refine dT ?_;refine RD.act rfl (m8 rfl rfl rfl rfl (bn (cW nm) [(z.to,ya.to)] (xs:=[]) gM.h gM.h lM.h rfl (fun _=>rfl) (vA (cW nm) [(z.to,ya.to)] (q:=[pt nm z.to,pt nm ya.to]) (by simp[rowOf,aK]) rfl rfl rfl) (by simp) ⟨by simp,by simp⟩)) rfl rfl ?_;refine c8 ?_;refine aZ ⟨by kernel_rfl,⟨lJ rfl,trivial⟩,?_⟩;refine goN ?_;refine⟨(cG P.gen y).length-(t+1),_,_,by omega,⟨t+1,[]++[(z.to,ya.to)],N2,.vl (M1+2) 0 0 ([]++[(z.to,ya.to)]).length,_,M1+3,rfl,htl,hpi,rfl,rfl,?_,?_,hlen1,by omega,?_⟩,by show nx<=M1+3;omega,Gh.sub ?_⟩;refine j7.more fun k b hb=>?_;have:k<M1:=(dZ k b hb).1;show gt ((M1+2,_)::(M1+1,_)::(M1,_)::H1) k=some b;rw[aK,if_neg (by omega),aK,if_neg (by omega),aK,if_neg (by omega)];exact hb;exact .vl (M1+2) 0 0 [(z.to,ya.to)] rfl (by simp[newU,aK]) rfl (Nat.zero_le _) (.inl rfl) (by omega);intro k hk hn;show gt ((M1+2,_)::(M1+1,_)::(M1,_)::H1) k=_;rw[aK,if_neg (by omega),aK,if_neg (by omega),aK,if_neg (by omega)];exact oX k hk hn
    ·have hwr:IntKind.i64.wrap ((t:Int)+1)=((t+1:Nat):Int):=by rw[kR (by omega) (by omega)];rfl
     rw[<-hwr];(repeat refine⟨rfl,?_⟩);exact trivial
  ·rw[h5]at hpi;obtain⟨x2,oT,hpi⟩:=aB hpi;obtain⟨hml,hpi⟩:=bU hpi
   haveI:=kW.gp
   haveI:=kW.gn oT
   refine goN ?_;refine dE [] ?_;refine c8 ?_;refine gZ rfl (fun s=>E9 s nm x2.more x2.moA P.gen) pB ?_;refine c8 ?_;refine aZ ⟨by kernel_rfl,trivial,?_⟩;refine goN ?_;have hN:∀k,k<P.N.length->nm k<M1:=fun k hk=>(dZ _ _ (j7.node k _ (List.getElem?_eq_getElem (by show k<N2.length;omega)))).1;have hkp:kp<M1:=(dZ _ _ j7.pool).1;have hni:=hN i (by omega);have nq:∀{a b:Nat},b<a->Nq a b:=fun h=>⟨by rw[beq_eq];simp;omega⟩
   haveI:Nq M1 kp:=nq hkp
   haveI:Nq (M1+1) kp:=nq (by omega)
   haveI:Nq M1 (nm i):=nq hni
   haveI:Nq (M1+1) (nm i):=nq (by omega)
   haveI:Nq (M1+1) M1:=nq (by omega)
   haveI:=j7.gp
   haveI:=j7.gn oT
   refine dE [(0,2),(0,5),(3,2),(6,2),(6,5),(7,2),(7,5),(8,2),(8,5),(9,2),(9,5)] ?_;refine c8 ?_;refine II rfl (eG rfl sS rfl).2 (Oz _ _ nm (nJ P.gen x2) hml) rfl rfl ?_;refine c8 ?_;refine RD.freeO rfl (mO.bp (cs:=bH nm ya) sZ.h sJ.h rfl rfl rfl rfl rfl rfl rfl (fun m h=>by simpa only[aJ]using h)) rfl rfl ?_;refine RD.act rfl (oAq (c:=bH nm) (xs:=nJ P.gen x2) (ys:=[ya]) rfl rfl rfl rfl rfl rfl rfl rfl ⟨by simp;omega,by simp;omega⟩) rfl rfl ?_;refine c8 ?_;refine pI ?_;refine aZ ⟨by kernel_rfl,⟨opm,opm,opm,opm,opm,opm,opm,opm,opm,opm,opm,trivial⟩,?_⟩;refine goN ?_;have sL:∀k,k<P.N.length->nm k<M1+1:=fun k hk=>Nat.lt_succ_of_lt (hN k hk);have hwx:=j7.wf x2 (zX oT);have hlen2:(show PP from{ P with N:=N2 }).N.length=P.N.length:=hlen1;rw[hlen2]at hwx;have hgK:∀(b:B)(H:List (Nat×B)),gt ((M1+1,b)::H) (M1+1)=some b:=fun b H=>by simp[aK]
   have gtfz:∀(b c d:B)(k:Nat),k<M1->k≠nm i->gt (fzH (M1+1) b 2 ((M1+1,b)::(M1,c)::ug H1 (nm i) d)) k=gt H1 k:=fun b c d k hk m4=>by rw[wO,if_neg (by omega),aK,if_neg (by omega),aK,if_neg (by omega),bL,if_neg (Ne.symm m4)];rcases hq:gt H1 k with _|b';rfl;simp only[zM];rw[QG _ _ (QI (Nat.le_succ M1) (dZ k b' hq).2)]
   have gtni:∀(b c:B)(R:List U),gt (fzH (M1+1) b 2 ((M1+1,b)::(M1,c)::ug H1 (nm i) (.row R 103))) (nm i)=some (.row (fF (M1+1) b 2 R) 103):=fun b c R=>by rw[wO,if_neg (by omega),aK,if_neg (by omega),aK,if_neg (by omega),bL,if_pos rfl,j7.node i x2 oT];rfl
   refine⟨(cG P.gen y).length-(t+1),fr 129 [(0,.ptr kp 0 0),(7,vR),(8,pt nm i),(9,pt nm j),(10,.i6 r1.1),(12,.iM (bH nm) (cG P.gen x)),(63,.iM (bH nm) (cG P.gen y)),(64,.i6 (cG P.gen y).length),(65,.i6 ((t+1:Nat):Int))],⟨fzH (M1+1) (.bv (bH nm) (nJ P.gen x2++[ya]) 107 2 1) 2 _,M1+1+1⟩,by omega,⟨t+1,W1,N2.set i { x2 with more:=nJ P.gen x2++[ya],moA:=P.gen },vR,_,M1+1+1,rfl,htl,hpi,rfl,rfl,?_,?_,by simp[hlen1],by omega,?_⟩,by show nx<=M1+1+1;omega,Gh.trans (Gh.sub ?_) (Gh.fz (M1+1) (.bv (bH nm) (nJ P.gen x2++[ya]) 107 2 1) 2 (hgK _ _) nofun (qR _ _ _ (V5 ?_)) rfl)⟩;refine j7.upd oT ⟨?_,?_,?_,?_⟩ ((gtni _ _ _).trans ?_) fun k b hb hk=>(gtfz _ _ _ k (dZ k b hb).1 hk).trans hb;rw[hlen2];exact hwx.arcs;rw[hlen2];exact hwx.fw;rw[hlen2];intro a ha;rcases yD.1 ha with ha |ha
   exact Ws hwx a ha;simp at ha;subst ha;exact hys a (zX hya);rw[hlen2];exact hwx.cp;have e1:=CR (c:=bH nm) (sz:=2) (fun _=>rfl) (nJ P.gen x2++[ya]) (M1+1) 2 107 1;simp only[wU,D3,CX,CW,FQ,CY _ _ _ (Q7 sL hwx.fw),CY _ _ _ (Q7 sL hwx.cp)];rw[e1];rfl;refine qZ.keep fun k q s hk=>(gtfz _ _ _ k (dZ k _ hk).1 fun e=>?_).trans hk;rw[e,j7.node i x2 oT]at hk;cases hk;intro k hk hn;exact(gtfz _ _ _ k (by omega) (Ne.symm (hn i (by omega)))).trans (oX k hk hn)
   ·have hwr:IntKind.i64.wrap ((t:Int)+1)=((t+1:Nat):Int):=by rw[kR (by omega) (by omega)];rfl
    rw[<-hwr];(repeat refine⟨rfl,?_⟩);exact trivial
   simp only[BelS,aJ,and_true,true_and];exact⟨by omega,aJ.le (Nat.le_succ M1) _ (qZ.bel dZ),by omega,sL j (by omega),QU _ fun a ha=>sL _ (by rw[<-hlen];exact US (hp'.wf x (zX hx)) a ha),QU _ fun a ha=>sL _ (hys a ha)⟩
 ·refine goN ?_;have htl:t=(cG P.gen y).length:=by
   have:¬ (t:Int)<(cG P.gen y).length:=by simpa using h4
   omega
  subst htl;rw[List.drop_length]at hpi;obtain rfl:=sI hpi;exact⟨_,_,⟨vR,H1,M1,rfl,rfl,j7,qZ,hlen1,oV,oX⟩,oV,Gh.sub (by((repeat refine⟨rfl,?_⟩);exact trivial))⟩
end
def UG(N:List PN)(g:Int)(n:Nat):List eE->List Nat->Option (List Nat)
 |[],out=>some out|a::l,out=>a8 (qM N g n a.to) fun q=>cond (out.contains q) (UG N g n l out) (aH (out.length<=1000000) (UG N g n l (out++[q])))
def xD(N:List PN)(g:Int)(n:Nat):Nat->Nat->List Nat->Option (List Nat)
 |0,_,_=>none|m+1,i,out=>cond (decide (i<out.length)) (a8 out[i]? fun p=>a8 N[p]? fun x=>aH ((cG g x).length<=1000000/\out.length<=1000000) (a8 (UG N g n (cG g x) out) fun o=>xD N g n m (i+1) o)) (some out)
def vJ(nm:Nat->Nat)(s:Nat)(out:List Nat):List (Nat×U×Nat):=(out.zipIdx s).map fun p=>(nm p.1,.bool true,p.2)
theorem mc(nm:Nat->Nat)(s:Nat)(out:List Nat)(q:Nat):vJ nm s (out++[q])=vJ nm s out++[(nm q,.bool true,s+out.length)]:=by
 simp[vJ,List.zipIdx_append]
theorem Nj{nm:Nat->Nat}{n:Nat}(hi:∀i j,i<n->j<n->nm i=nm j->i=j){q:Nat}(hq:q<n):∀(out:List Nat)(s:Nat),(∀k∈out,k<n)->o7 (nm q) (vJ nm s out)=cond (out.contains q) (some (.bool true)) none
 |[],s,_=>rfl|k::out,s,h=>by
  have ih:=Nj hi hq out (s+1) fun k hk=>h k (by simp[hk]);simp only[vJ,List.zipIdx_cons,zQ,o7]at ih ⊢;rw[ih,List.contains_cons];by_cases e:q=k;subst e;simp[beq_eq];have:nm k≠nm q:=fun h2=>e (hi q k hq (h k (by simp)) h2.symm);have e2:(q==k)=false:=by simpa using e
  simp[beq_eq,this,e2]
theorem Nx{nm:Nat->Nat}{h:List (Nat×B)}{n:Nat}(hr:∀i,i<n->isRow h (nm i)):∀(out:List Nat)(s:Nat),(∀k∈out,k<n)->∀e∈vJ nm s out,isRow h e.1:=fun out s ho e he=>by
 simp only[vJ,List.mem_map]at he;obtain⟨p,hp,rfl⟩:=he;exact hr _ (ho _ (List.fst_mem_of_mem_zipIdx hp))
section
variable{kp kr st:Nat}{nm:Nat->Nat}{P:PP}{h:List (Nat×B)}{nx:Nat}
theorem PH.row(p:PH kp kr st nm P h):∀i,i<P.N.length->isRow h (nm i):=fun i hi=>⟨_,_,p.node i _ (List.getElem?_eq_getElem hi)⟩
theorem Dt{N:List PN}{g:Int}{n i r:Nat}(h:qM N g n i=some r):r<N.length:=by
 obtain⟨x,hx⟩:=Eh h;exact(zG.1 hx).1
structure OW(kp kr st:Nat)(nm:Nat->Nat)(P:PP)(h:List (Nat×B))(nx:Nat)(out:List Nat)(Ks Ko so:Nat)(H:List (Nat×B))(M:Nat):Prop where
 mp:gt H Ks=some (.map ((vJ nm 0 out).map pE) out.length)
 vc:gt H Ko=some (.bv (cD nm) out 92 1 so)
 ks:nx<=Ks
 ko:nx<=Ko
 old:∀k,k<nx->gt H k=gt h k
 le:nx<=M
 lt:∀k∈out,k<P.N.length
theorem OW.ph{out:List Nat}{Ks Ko so M:Nat}{H:List (Nat×B)}(r:OW kp kr st nm P h nx out Ks Ko so H M)(p:PH kp kr st nm P h)(hw:jA ⟨h,nx⟩):PH kp kr st nm P H:=p.more fun k b hb=>by rw[r.old k (hw k b hb).1];exact hb
theorem ur(p:PH kp kr st nm P h)(n:Nat){i:Nat}(hi:i<P.N.length){out:List Nat}(J:xD P.N P.gen n n 0 [i]=some out):
  aO prog 67 [.ptr kp 0 0,pt nm i] ⟨h,nx⟩ (fun u σ'=>u=.iM (cD nm) out/\σ'=⟨h,nx⟩):=by
 refine aO.wf fun oU _=>?_
 haveI:SuC nx (nx+1):=⟨rfl⟩
 haveI:SuC (nx+1) (nx+2):=⟨rfl⟩
 refine dF 49 ZW ?_;refine goN ?_;refine RS.w rfl Xq ?_;refine goN ?_;have h1:∀(b:B),∀k c,gt h k=some c->gt ((nx,b)::h) k=some c:=fun b k c hc=>by rw[fY (oU k c hc).1];exact hc
 refine RS.stepn rfl (dM.pins tb_ok (es:=[]) (cl:=0) (v:=.bool true) (.inr rfl) vW.h eA.h (bQ iG.h) (cB rfl) (cB rfl) (cB rfl) (by simp[newU,aK]) (Nx (p.more (h1 _)).row [i] 0 (by simpa using hi) (nm i,.bool true,0) (by simp[vJ])) (by simp) rfl) ?_;rintro _ _ ⟨rfl,rfl⟩;refine goN ?_;refine sV rfl (dM.bslv (k:=1) (cs:=(List.map (cD nm) [i]).flatten) (qs:=[(0,pt nm i)]) tb_ok rfl eB.h eU.h (Ct rfl) rfl rfl rfl rfl rfl rfl rfl) ?_;rintro _ _ ⟨rfl,rfl⟩;refine goN ?_;have hfn:∀(b c d:B)(k:Nat),k<nx->gt ((nx+1,b)::ug ((nx,c)::h) nx d) k=gt h k:=fun b c d k hk=>by rw[aK,if_neg (by omega),bL,if_neg (by omega),aK,if_neg (by omega)]
 refine gL (fun m tm σ=>∃(t:Nat)(o:List Nat)(so:Nat)(H:List (Nat×B))(M:Nat),xD P.N P.gen n m t o=some out/\tm=fr 49 [(0,.ptr kp 0 0),(5,.map nx),(6,.vl (nx+1) so 0 o.length),(7,.i6 t)]/\t<=o.length/\σ=⟨H,M⟩/\OW kp kr st nm P h nx o nx (nx+1) so H M)
  (fun tm σ=>∃(so:Nat)(H:List (Nat×B))(M:Nat),tm=fr 49 [(6,.vl (nx+1) so 0 out.length)]/\σ=⟨H,M⟩/\OW kp kr st nm P h nx out nx (nx+1) so H M) n
  ⟨0,[i],0,_,nx+2,J,rfl,Nat.zero_le _,rfl,⟨by show gt ((nx+1,_)::ug ((nx,_)::h) nx _) nx=_;rw[aK,if_neg (by omega),bL,if_pos rfl];simp[aK,vJ],by simp[newU,aK,B.bv],zF _,Nat.le_succ _,fun k hk=>hfn _ _ _ k hk,by omega,by simpa using hi⟩⟩ ?_ ?_ (by show nx<=nx+2;omega)
 rintro _ _ ⟨so,H,M,rfl,rfl,hr⟩;refine goN ?_;refine⟨.inr rfl,_,dO rfl dX,.iM (cD nm) out,⟨h,nx⟩,zF _,Bi (c:=cD nm) (xs:=out) (e:=92) (sz:=1) (K:=nx+1) (st:=so) oU (Nat.le_succ _) hr.vc hr.old hr.le (tm':=[.iM (cD nm) out]) ?_ ?_ (zF _),rfl,rfl⟩;exact congrArg (fun u=>[u]) (CR (c:=cD nm) (sz:=1) (fun _=>rfl) out (nx+1) 1 92 so);simp only[aE,aJ,and_true];rw[QV];intro c hc;obtain⟨a,ha,rfl⟩:=List.mem_map.1 hc;simp only[cD,pt,aE,aJ,and_true];exact p.lt oU (hr.lt a ha);rintro(_ |m) _ _ ⟨t,o,so,H,M,J,rfl,ht,rfl,hr⟩;cases J;have hp:=hr.ph p oU;refine goN ?_;refine RS.w rfl (B6 rfl rfl rfl (Mf eB.h hr.vc)) ?_;refine goN ?_;refine cU rfl (fun h2=>?_) (fun h2=>?_)
 ·have hto:t<o.length:=by simpa using h2
  change cond (decide (t<o.length)) _ _=some out at J;rw[decide_eq_true hto]at J;obtain⟨q,hq,J⟩:=aB J;obtain⟨x,hx,J⟩:=aB J;obtain⟨⟨hl,hol⟩,J⟩:=bU J;obtain⟨o2,Z7,J⟩:=aB J;have hid:aC o (t:Int)=some q:=by rw[aC,if_pos ⟨by omega,by omega⟩];simpa using hq
  have hv:iU ⟨H,M⟩ (nx+1) so=some ((o.map (cD nm)).flatten,92,1):=by simp[iU,hr.vc,B.bv]
  refine goN ?_;apply aL;refine goN ?_;refine RS.w rfl (eJ rfl rfl (lG (cD nm) eB.h (bQ eU.h) (by decide) (fun _=>rfl) hv hid)) ?_;refine RS.w rfl (qQ (cD nm) (pt nm) eA.h rfl (fun _=>rfl) rfl hr.vc hid) (aI rfl (Oa hp hx hl) uB ?_);refine goN ?_;refine gL (fun m tm σ=>∃(j:Nat)(o1:List Nat)(so:Nat)(H:List (Nat×B))(M:Nat),m=(cG P.gen x).length-j/\j<=(cG P.gen x).length/\UG P.N P.gen n ((cG P.gen x).drop j) o1=some o2/\t<o1.length/\tm=fr 49 [(0,.ptr kp 0 0),(5,.map nx),(6,.vl (nx+1) so 0 o1.length),(7,.i6 t),(27,.iM (bH nm) (cG P.gen x)),(28,.i6 (cG P.gen x).length),(29,.i6 j)]/\σ=⟨H,M⟩/\OW kp kr st nm P h nx o1 nx (nx+1) so H M)
   (fun tm σ=>∃(so:Nat)(H:List (Nat×B))(M:Nat),tm=fr 49 [(0,.ptr kp 0 0),(5,.map nx),(6,.vl (nx+1) so 0 o2.length),(7,.i6 t)]/\t<o2.length/\σ=⟨H,M⟩/\OW kp kr st nm P h nx o2 nx (nx+1) so H M) (cG P.gen x).length
   ⟨0,o,so,H,M,rfl,Nat.zero_le _,Z7,hto,rfl,rfl,hr⟩ ?_ ?_ hr.le
  ·rintro _ _ ⟨pb,H2,M2,rfl,Sn,rfl,hr2⟩;refine goN ?_;have hwr:IntKind.i64.wrap ((t:Int)+1)=((t+1:Nat):Int):=by rw[kR (by omega) (by omega)];rfl
   refine⟨m,_,_,zN _,⟨t+1,o2,pb,H2,M2,J,rfl,Sn,rfl,hr2⟩,hr2.le,Gh.sub ?_⟩;rw[<-hwr];(repeat refine⟨rfl,?_⟩);exact trivial
  rintro _ _ _ ⟨j,o1,TT,H1,M1,rfl,hj,hpi,Z2,rfl,rfl,hr1⟩;have j7:=hr1.ph p oU;refine WPU.wf fun dZ _=>?_
  haveI:SuC M1 (M1+1):=⟨rfl⟩
  haveI:SuC (M1+1) (M1+2):=⟨rfl⟩
  refine goN ?_;refine cU rfl (fun h4=>?_) (fun h4=>?_)
  ·have hjl:j<(cG P.gen x).length:=by simpa using h4
   obtain⟨a,ha⟩:∃a,(cG P.gen x)[j]? = some a:=⟨_,List.getElem?_eq_getElem hjl⟩;have hid:aC (cG P.gen x) (j:Int)=some a:=by rw[aC,if_pos ⟨by omega,by omega⟩];simpa using ha
   have hdr:(cG P.gen x).drop j=a::(cG P.gen x).drop (j+1):=by rw[List.drop_eq_getElem_cons hjl];rw[List.getElem?_eq_getElem hjl]at ha;cases ha;rfl
   have hwr:IntKind.i64.wrap ((j:Int)+1)=((j+1:Nat):Int):=by rw[kR (by omega) (by omega)];rfl
   rw[hdr]at hpi;obtain⟨q1,Iz,hpi⟩:=aB hpi;have hq1l:=Dt Iz;have hH:∀(b:B),∀k c,gt H1 k=some c->gt ((M1,b)::H1) k=some c:=fun b k c hc=>by rw[fY (dZ k c hc).1];exact hc
   have y3:OW kp kr st nm P h nx o1 nx (nx+1) TT ((M1,.row (bH nm a) 107)::H1) (M1+1):=⟨hH _ _ _ hr1.mp,hH _ _ _ hr1.vc,hr1.ks,hr1.ko,fun k hk=>by rw[fY (Nat.lt_of_lt_of_le hk hr1.le)];exact hr1.old k hk,Nat.le_succ_of_le hr1.le,hr1.lt⟩;have NE:=y3.ph p oU;refine goN ?_;apply aL;refine goN ?_;refine aP hid ?_;refine goN ?_;refine aI rfl (BE NE n Iz) p9 ?_;refine goN ?_;refine sV rfl (dM.plook tb_ok (zu:=.bool false) rfl vW.h eA.h (bQ iG.h) nz.h rfl (cB rfl) (cB rfl) y3.mp (NE.row q1 hq1l) (Nx NE.row o1 0 hr1.lt)) ?_;rintro _ _ ⟨rfl,rfl⟩;rw[Nj p.inj hq1l o1 0 hr1.lt];cases hc:o1.contains q1 with
   |true=>rw[hc]at hpi;refine goN ?_;refine cU rfl (fun h5=>by cases h5) (fun h5=>?_);refine goN ?_;refine⟨(cG P.gen x).length-(j+1),_,_,by omega,⟨j+1,o1,TT,_,M1+1,rfl,hjl,hpi,Z2,rfl,rfl,y3⟩,y3.le,Gh.sub ?_⟩;rw[<-hwr];(repeat refine⟨rfl,?_⟩);exact trivial|false=>
    rw[hc]at hpi;obtain⟨oj,hpi⟩:=bU hpi;refine goN ?_;refine cU rfl (fun h5=>?_) (fun h5=>by cases h5);refine goN ?_;have hkv:nx+1<M1:=(dZ _ _ hr1.vc).1;refine RS.stepn rfl (dM.pins tb_ok (v:=.bool true) (.inl rfl) vW.h eA.h (bQ iG.h) (cB rfl) (cB rfl) (cB rfl) y3.mp (NE.row q1 hq1l) (Nx NE.row o1 0 hr1.lt) (by rw[Nj p.inj hq1l o1 0 hr1.lt,hc];rfl)) ?_;rintro _ _ ⟨rfl,rfl⟩;change RU _ _ _ _ _ (Sg.mk (ug ((M1,.row (bH nm a) 107)::H1) nx (.map ((vJ nm 0 o1++[(nm q1,U.bool true,o1.length)]).map pE) (o1.length+1))) (M1+1)) _;refine goN ?_;refine bV ?_;have ZB:gt ((M1+1,.row [pt nm q1] 92)::ug ((M1,.row (bH nm a) 107)::H1) nx (.map ((vJ nm 0 o1++[(nm q1,U.bool true,o1.length)]).map pE) (o1.length+1))) (nx+1)=some (.vec (o1.map (cD nm)).flatten 92 1 TT):=by rw[aK,if_neg (by omega),bL,if_neg (by omega)];exact y3.vc
    refine RS.w rfl (m8 rfl rfl rfl rfl (tK (cD nm) [q1] eB.h eB.h eU.h rfl (fun _=>rfl) ZB (vA (cD nm) [q1] (q:=[pt nm q1]) (by simp[rowOf,aK]) rfl rfl rfl) ⟨by simp;omega,by simp;omega⟩)) ?_;refine goN ?_;refine⟨(cG P.gen x).length-(j+1),_,_,by omega,⟨j+1,o1++[q1],TT+1,_,M1+2,rfl,hjl,hpi,by simp;omega,rfl,rfl,⟨?_,?_,zF _,Nat.le_succ _,fun k hk=>?_,by omega,?_⟩⟩,by show nx<=M1+2;omega,Gh.sub ?_⟩;rw[bL,if_neg (by omega)];show gt ((M1+1,_)::ug ((M1,_)::H1) nx _) nx=_;rw[aK,if_neg (by omega),bL,if_pos rfl,y3.mp,mc];simp;rw[bL,if_pos rfl,ZB];rfl;rw[bL,if_neg (by omega)];show gt ((M1+1,_)::ug ((M1,_)::H1) nx _) k=_;rw[aK,if_neg (by omega),bL,if_neg (by omega)];exact y3.old k hk;intro k hk;rcases yD.1 hk with hk |hk;exact hr1.lt k hk;simp at hk;subst hk;exact hq1l
    ·rw[<-hwr];(repeat refine⟨rfl,?_⟩);exact trivial
  ·refine goN ?_;have hjl:j=(cG P.gen x).length:=by
    have:¬ (j:Int)<(cG P.gen x).length:=by simpa using h4
    omega
   subst hjl;rw[List.drop_length]at hpi;obtain rfl:=sI hpi;exact⟨_,_,⟨TT,H1,M1,rfl,Z2,rfl,hr1⟩,hr1.le,Gh.sub (by((repeat refine⟨rfl,?_⟩);exact trivial))⟩
 ·refine goN ?_;have hto:t=o.length:=by have:¬ (t:Int)<o.length:=(by simpa using h2);omega
  change cond (decide (t<o.length)) _ _=some out at J;rw[decide_eq_false (by omega)]at J;obtain rfl:=sI J;exact⟨_,_,⟨so,H,M,rfl,rfl,hr⟩,hr.le,Gh.sub (by((repeat refine⟨rfl,?_⟩);exact trivial))⟩
end
section
variable{kp kr st:Nat}{nm:Nat->Nat}{P:PP}{h:List (Nat×B)}{nx:Nat}
theorem PH.beq(p:PH kp kr st nm P h){i j:Nat}(hi:i<P.N.length)(hj:j<P.N.length):Nat.beq (nm i) (nm j)=Nat.beq i j:=by
 rw[beq_eq,beq_eq];by_cases e:i=j;simp[e];have:nm i≠nm j:=fun h=>e (p.inj i j hi hj h);simp[e,this]
theorem sn(p:PH kp kr st nm P h){kx:Nat}(hk:gt h kx=some (.row [.ptr kp 0 0] 31))(n:Nat){a:eE}{r:Nat}(hr:qM P.N P.gen n a.to=some r)(ha:a.to<P.N.length):
  aO prog 107 (.agg (bH nm a)::[.ptr kx 0 0]) ⟨h,nx⟩ (fun u σ'=>u=.bool (!Nat.beq r a.to)/\σ'=⟨h,nx⟩):=by
 refine aO.wf fun hw _=>?_;have hrl:=Dt hr
 haveI:SuC nx (nx+1):=⟨rfl⟩
 have hp:PH kp kr st nm P ((nx,.row (bH nm a) 107)::h):=p.more fun k b hb=>by rw[fY (hw k b hb).1];exact hb
 haveI:dK ((nx,.row (bH nm a) 107)::h) kx (.row [.ptr kp 0 0] 31):=⟨by rw[fY (hw _ _ hk).1];exact hk⟩
 have hnr:=hp.node r _ (List.getElem?_eq_getElem hrl);have hna:=hp.node a.to _ (List.getElem?_eq_getElem ha);refine dF 11 HX ?_;refine goN ?_;refine WPU.any tb_ok (lF:=[(3,.bool (if BinOp.neq=BinOp.eql then Nat.beq (nm r) (nm a.to)else !Nat.beq (nm r) (nm a.to)))]) (σF:=⟨(nx,.row (bH nm a) 107)::h,nx+1⟩) (fun hq=>?_) ?_
 ·repeat' first
   |exact trivial
   |refine⟨rfl,?_⟩
   |refine And.intro ?_ ?_
   |(show Jw _ _ _ _ _ _ _ _ _;refine Exists.intro _ ⟨rfl,rfl,rfl,.inl ⟨_,_,opm,_,_,Gh.refl _ _ _,Nat.le_succ _,?_⟩⟩)
   |(show Jw _ _ _ _ _ _ _ _ _;refine Exists.intro _ ⟨rfl,rfl,rfl,.inr (.inl ⟨_,_,_,wQ rfl rfl p9 hb66 rfl rfl,BE hp n hr,?_⟩)⟩;rintro _ _ ⟨rfl,rfl⟩;refine⟨_,_,Gh.refl _ _ _,Nat.le_succ _,?_⟩)
   |(show Jw _ _ _ _ _ _ _ _ _;refine Exists.intro _ ⟨rfl,rfl,rfl,.inr (.inr ⟨_,dM.peq tb_ok rfl (.inr rfl) eA.h (bQ iG.h) (cB rfl) (cB rfl) hnr hna,?_⟩)⟩;rintro _ _ ⟨rfl,rfl⟩;refine⟨_,_,Gh.refl _ _ _,Nat.le_succ _,?_⟩)
  all_goals exact⟨_,⟨(nx,.row (bH nm a) 107)::h,nx+1⟩,Gh.sub (l':=[(3,.bool (if BinOp.neq=BinOp.eql then Nat.beq (nm r) (nm a.to)else !Nat.beq (nm r) (nm a.to)))]) ⟨rfl,trivial⟩,Nat.le_succ _,hq⟩
 refine goN ?_;exact Kf hw rfl rfl rfl (fun k hk=>fY hk) (Nat.le_succ _) (by simp[aJ]) ⟨by rw[if_neg (by decide),hp.beq hrl ha],rfl⟩
theorem sd{α:Type}(q:α->Bool)(l:List α):decide (AS q l>=0)=l.any q:=by
 unfold AS;cases hf:l.findIdx? q with
 |none=>
  rw[List.findIdx?_eq_none_iff]at hf;have:l.any q=false:=by rw[List.any_eq_false];intro x hx;simp[hf x hx]
  rw[this];rfl
 |some i=>rw[List.findIdx?_eq_some_iff_getElem]at hf;obtain⟨hi,h1,_⟩:=hf;have:l.any q=true:=List.any_eq_true.2 ⟨l[i],List.getElem_mem hi,h1⟩;rw[this];simp
theorem mn{σ:Sg}{nm:Nat->Nat}{l:List eE}{g:FuncId}{fn:Func}{cap:List U}{q:eE->Bool}(hfn:tb.fn g=some fn)(hb:fn.body.isSome=true)(hl:l.length<=1000000)(hg:∀a∈l,aO prog g (.agg (bH nm a)::cap) σ (fun u σ'=>u=.bool (q a)/\σ'=σ)):
  aO prog 106 [.iM (bH nm) l,.fn (.func g) [] cap] σ (fun u σ'=>u=.bool (l.any q)/\σ'=σ):=by
 refine dF 9 HY ?_;refine goN ?_;refine aI rfl (Vs hfn hb hl hg) yZ ?_;refine goN ?_;exact rY rfl rfl rfl (zF _) ⟨by rw[sd],rfl⟩
end
def xF(g:Int)(x:PN):Bool:=cond (x.chA != g) false x.ch
def tU(N:List PN)(g:Int)(n:Nat)(a:eE):Bool:=match qM N g n a.to with
 |some r=>!Nat.beq r a.to|none=>false
def Bo(N:List PN)(g:Int)(n:Nat)(l:List eE):Bool:=l.all fun a=>(qM N g n a.to).isSome
def XW(g:Int)(n:Nat):List Nat->List PN->Option (List PN)
 |[],N=>some N|p::l,N=>a8 N[p]? fun x=>cond (Bo N g n x.arcs) (aH (x.arcs.length<=1000000) (XW g n l (N.set p { x with ch:=jP g x != x.kind||(decide (((nJ g x).length:Int)>0)||x.arcs.any (tU N g n)),chA:=g }))) none
def LY(g:Int)(N:List PN):List eE->Option Bool
 |[]=>some false|a::l=>a8 N[a.to]? fun y=>cond (xF g y) (some true) (LY g N l)
def EP(g:Int):List Nat->Bool->List PN->Option (Bool×List PN)
 |[],ag,N=>some (ag,N)|p::l,ag,N=>a8 N[p]? fun x=>cond (xF g x) (EP g l ag N) (aH (x.arcs.length<=1000000) (a8 (LY g N x.arcs) fun c=>cond c (EP g l true (N.set p { x with ch:=true,chA:=g })) (EP g l ag N)))
def XV(g:Int)(l:List Nat):Nat->List PN->Option (List PN)
 |0,_=>none|m+1,N=>a8 (EP g l false N) fun r=>cond r.1 (XV g l m r.2) (some r.2)
def Kd(g:Int)(n:Nat)(l:List Nat)(N:List PN):Option (List PN):=aH (l.length<=1000000) (a8 (XW g n l N) fun N1=>XV g l n N1)
section
variable{kp kr st:Nat}{nm:Nat->Nat}{P:PP}{h:List (Nat×B)}{nx:Nat}
structure mX(kp kr st:Nat)(nm:Nat->Nat)(P:PP)(h:List (Nat×B))(nx:Nat)(N:List PN)(H:List (Nat×B))(M:Nat):Prop where
 ph:PH kp kr st nm { P with N:=N } H
 bx:gt H nx=some (.row [.ptr kp 0 0] 31)
 fr:∀k,k<nx->(∀i,i<P.N.length->nm i≠k)->gt H k=gt h k
 le:nx<M
 len:N.length=P.N.length
theorem mX.put{N:List PN}{H:List (Nat×B)}{M:Nat}(m:mX kp kr st nm P h nx N H M){i:Nat}{x:PN}(y:PN)(hx:N[i]? = some x)(hy:gJ P.N.length y):mX kp kr st nm P h nx (N.set i y) (ug H (nm i) (.row (jJ nm y) 103)) M:=by
 have hi:i<N.length:=(zG.1 hx).1;refine⟨m.ph.put y hx (by show gJ N.length y;rw[m.len];exact hy),?_,fun k hk hn=>?_,m.le,by simp[m.len]⟩;rw[bL,if_neg fun e=>?_];exact m.bx;have:=m.bx;rw[<-e,m.ph.node i x hx]at this;simp at this;rw[bL,if_neg (hn i (by rw[<-m.len];exact hi))];exact m.fr k hk hn
theorem mX.wf{N:List PN}{H:List (Nat×B)}{M:Nat}(m:mX kp kr st nm P h nx N H M){i:Nat}{x:PN}(hx:N[i]? = some x):gJ P.N.length x:=by
 have:=m.ph.wf x (zX hx);rw[show({ P with N:=N }:PP).N.length=P.N.length from m.len]at this;exact this
theorem mX.more{N:List PN}{H:List (Nat×B)}{M:Nat}(m:mX kp kr st nm P h nx N H M)(hw:jA ⟨H,M⟩)(b:B):mX kp kr st nm P h nx N ((M,b)::H) (M+1):=
 ⟨m.ph.more fun k c hc=>by rw[fY (hw k c hc).1];exact hc,by rw[fY m.le];exact m.bx,fun k hk hn=>by rw[fY (Nat.lt_trans hk m.le)];exact m.fr k hk hn,Nat.lt_succ_of_lt m.le,m.len⟩
theorem mX.gb{N:List PN}{H:List (Nat×B)}{M:Nat}(m:mX kp kr st nm P h nx N H M):dK H nx (.row [.ptr kp 0 0] 31):=⟨m.bx⟩
theorem ln(p:PH kp kr st nm P h)(n:Nat){l:List Nat}(hl:∀i∈l,i<P.N.length){N':List PN}(J:Kd P.gen n l P.N=some N'):
  aO prog 68 [.ptr kp 0 0,.iM (cD nm) l] ⟨h,nx⟩ (fun u σ'=>∃H M,u=.tup []/\σ'=⟨H,M⟩/\PH kp kr st nm { P with N:=N' } H/\N'.length=P.N.length/\nx<=M/\∀k,k<nx->(∀i,i<P.N.length->nm i≠k)->gt H k=gt h k):=by
 refine aO.wf fun oU _=>?_;obtain⟨hll,J⟩:=bU J;obtain⟨N1,h1,h2⟩:=aB J
 haveI:SuC nx (nx+1):=⟨rfl⟩
 refine dF 120 ZV ?_;refine goN ?_;have Z8:mX kp kr st nm P h nx P.N ((nx,.row [.ptr kp 0 0] 31)::h) (nx+1):=⟨p.more fun k b hb=>by rw[fY (oU k b hb).1];exact hb,by simp[aK],fun k hk _=>fY hk,zN _,rfl⟩;refine gL (fun m tm σ=>∃(t:Nat)(N:List PN)(H:List (Nat×B))(M:Nat),m=l.length-t/\t<=l.length/\XW P.gen n (l.drop t) N=some N1/\tm=fr 120 [(1,.iM (cD nm) l),(2,.ptr nx 0 0),(18,.iM (cD nm) l),(19,.i6 l.length),(20,.i6 t)]/\σ=⟨H,M⟩/\mX kp kr st nm P h nx N H M)
  (fun tm σ=>∃(H:List (Nat×B))(M:Nat),tm=fr 120 [(1,.iM (cD nm) l),(2,.ptr nx 0 0)]/\σ=⟨H,M⟩/\mX kp kr st nm P h nx N1 H M) l.length
  ⟨0,P.N,_,nx+1,rfl,Nat.zero_le _,h1,rfl,rfl,Z8⟩ ?_ ?_ (Nat.le_succ _)
 ·rintro _ _ ⟨H,M,rfl,rfl,hm⟩;refine goN ?_;refine gL (fun m tm σ=>∃(ag:Bool)(N:List PN)(H:List (Nat×B))(M:Nat),cond ag (XV P.gen l m N) (some N)=some N'/\tm=fr 120 [(1,.iM (cD nm) l),(2,.ptr nx 0 0),(9,.bool ag)]/\σ=⟨H,M⟩/\mX kp kr st nm P h nx N H M)
   (fun tm σ=>∃(H:List (Nat×B))(M:Nat),tm=fr 120 []/\σ=⟨H,M⟩/\mX kp kr st nm P h nx N' H M) n
   ⟨true,N1,H,M,h2,rfl,rfl,hm⟩ ?_ ?_ (Nat.le_of_lt hm.le)
  rintro _ _ ⟨H,M,rfl,rfl,hm⟩;exact⟨.inl rfl,[],rfl,.tup [],_,Nat.le_of_lt hm.le,Gh.refl _ _ _,H,M,rfl,rfl,hm.ph,hm.len,Nat.le_of_lt hm.le,hm.fr⟩;rintro m _ _ ⟨ag,N,H,M,hpm,rfl,rfl,hm⟩;refine goN ?_;refine cU rfl (fun h3=>?_) (fun h3=>?_)
  ·subst h3;cases m with
   |zero=>cases hpm|succ m=>
   obtain⟨r,hr,hpm⟩:=aB (show a8 (EP P.gen l false N) (fun r=>cond r.1 (XV P.gen l m r.2) (some r.2))=some N' from hpm);refine goN ?_;apply aL;refine goN ?_;refine gL (fun m tm σ=>∃(t:Nat)(ag:Bool)(N:List PN)(H:List (Nat×B))(M:Nat),m=l.length-t/\t<=l.length/\EP P.gen (l.drop t) ag N=some r/\tm=fr 120 [(1,.iM (cD nm) l),(2,.ptr nx 0 0),(9,.bool ag),(68,.iM (cD nm) l),(69,.i6 l.length),(70,.i6 t)]/\σ=⟨H,M⟩/\mX kp kr st nm P h nx N H M)
    (fun tm σ=>∃(H:List (Nat×B))(M:Nat),tm=fr 120 [(1,.iM (cD nm) l),(2,.ptr nx 0 0),(9,.bool r.1)]/\σ=⟨H,M⟩/\mX kp kr st nm P h nx r.2 H M) l.length
    ⟨0,false,N,H,M,rfl,Nat.zero_le _,hr,rfl,rfl,hm⟩ ?_ ?_ (Nat.le_of_lt hm.le)
   ·rintro _ _ ⟨H,M,rfl,rfl,hm⟩;refine goN ?_;exact⟨m,_,_,zN _,⟨r.1,r.2,H,M,hpm,rfl,rfl,hm⟩,Nat.le_of_lt hm.le,Gh.sub (by((repeat refine⟨rfl,?_⟩);exact trivial))⟩
   rintro _ _ _ ⟨t,ag,N,H,M,rfl,ht,hpi,rfl,rfl,hm⟩;refine goN ?_;refine cU rfl (fun h4=>?_) (fun h4=>?_)
   ·have htl:t<l.length:=by simpa using h4
    obtain⟨q,hq⟩:∃a,l[t]? = some a:=⟨_,List.getElem?_eq_getElem htl⟩;have hid:aC l (t:Int)=some q:=by rw[aC,if_pos ⟨by omega,by omega⟩];simpa using hq
    have hdr:l.drop t=q::l.drop (t+1):=by rw[List.drop_eq_getElem_cons htl];rw[List.getElem?_eq_getElem htl]at hq;cases hq;rfl
    have hwr:IntKind.i64.wrap ((t:Int)+1)=((t+1:Nat):Int):=by rw[kR (by omega) (by omega)];rfl
    rw[hdr]at hpi;obtain⟨x,hx,hpi⟩:=aB hpi;have hwx:=hm.wf hx
    haveI:=hm.ph.gp
    haveI:=hm.ph.gn hx
    haveI:=hm.gb
    refine goN ?_;apply aL;refine goN ?_;refine aP hid ?_;refine goN ?_;refine dE [] ?_;refine c8 ?_;refine gZ rfl (fun s=>NO s x.ch x.chA P.gen) EC ?_;refine c8 ?_;refine aZ ⟨by kernel_rfl,trivial,?_⟩;refine goN ?_;refine cU rfl (fun h5=>?_) (fun h5=>?_)
    ·rw[show xF P.gen x=true from h5]at hpi;refine goN ?_;refine⟨l.length-(t+1),_,_,by omega,⟨t+1,ag,N,H,M,rfl,htl,hpi,rfl,rfl,hm⟩,Nat.le_of_lt hm.le,Gh.sub ?_⟩;rw[<-hwr];(repeat refine⟨rfl,?_⟩);exact trivial
    rw[show xF P.gen x=false from h5]at hpi;obtain⟨hal,hpi⟩:=bU hpi;obtain⟨c,hc,hpi⟩:=aB hpi;have Ss:EP P.gen (l.drop (t+1)) (cond c true ag) (cond c (N.set q { x with ch:=true,chA:=P.gen }) N)=some r:=by cases c<;>exact hpi
    refine goN ?_;refine gL (fun m tm σ=>∃(j:Nat)(H:List (Nat×B))(M:Nat),m=x.arcs.length-j/\j<=x.arcs.length/\LY P.gen N (x.arcs.drop j)=some c/\tm=fr 120 [(1,.iM (cD nm) l),(2,.ptr nx 0 0),(9,.bool ag),(11,pt nm q),(68,.iM (cD nm) l),(69,.i6 l.length),(70,.i6 t),(90,.iM (bH nm) x.arcs),(91,.i6 x.arcs.length),(92,.i6 j)]/\σ=⟨H,M⟩/\mX kp kr st nm P h nx N H M)
     (fun tm σ=>∃(H:List (Nat×B))(M:Nat),tm=fr 120 [(1,.iM (cD nm) l),(2,.ptr nx 0 0),(9,.bool (cond c true ag)),(68,.iM (cD nm) l),(69,.i6 l.length),(70,.i6 t)]/\σ=⟨H,M⟩/\mX kp kr st nm P h nx (cond c (N.set q { x with ch:=true,chA:=P.gen }) N) H M) x.arcs.length
     ⟨0,H,M,rfl,Nat.zero_le _,hc,rfl,rfl,hm⟩ ?_ ?_ (Nat.le_of_lt hm.le)
    ·rintro _ _ ⟨H,M,rfl,rfl,hm⟩;refine goN ?_;refine⟨l.length-(t+1),_,_,by omega,⟨t+1,_,_,H,M,rfl,htl,Ss,rfl,rfl,hm⟩,Nat.le_of_lt hm.le,Gh.sub ?_⟩;rw[<-hwr];(repeat refine⟨rfl,?_⟩);exact trivial
    rintro _ _ _ ⟨j,H,M,rfl,hj,hc,rfl,rfl,hm⟩;refine WPU.wf fun dZ _=>?_
    haveI:SuC M (M+1):=⟨rfl⟩
    refine goN ?_;refine cU rfl (fun h6=>?_) (fun h6=>?_)
    ·have hjl:j<x.arcs.length:=by simpa using h6
     obtain⟨a,ha⟩:∃a,x.arcs[j]? = some a:=⟨_,List.getElem?_eq_getElem hjl⟩;have rC:aC x.arcs (j:Int)=some a:=by rw[aC,if_pos ⟨by omega,by omega⟩];simpa using ha
     have y6:x.arcs.drop j=a::x.arcs.drop (j+1):=by rw[List.drop_eq_getElem_cons hjl];rw[List.getElem?_eq_getElem hjl]at ha;cases ha;rfl
     have qY:IntKind.i64.wrap ((j:Int)+1)=((j+1:Nat):Int):=by rw[kR (by omega) (by omega)];rfl
     rw[y6]at hc;obtain⟨y,hy,hc⟩:=aB hc;have nM:=hm.more dZ (.row (bH nm a) 107)
     haveI:=nM.ph.gp
     haveI:=nM.ph.gn hx
     haveI:=nM.ph.gn hy
     haveI:=nM.gb
     refine goN ?_;apply aL;refine goN ?_;refine aP rC ?_;refine goN ?_;refine dE [] ?_;refine c8 ?_;refine gZ rfl (fun s=>NO s y.ch y.chA P.gen) EC ?_;refine c8 ?_;refine aZ ⟨by kernel_rfl,trivial,?_⟩;refine goN ?_;refine cU rfl (fun h7=>?_) (fun h7=>?_)
     ·rw[show xF P.gen y=true from h7]at hc;obtain rfl:=sI hc;refine goN ?_;exact⟨_,_,⟨_,M+1,rfl,rfl,nM.put { x with ch:=true,chA:=P.gen } hx ⟨hwx.arcs,hwx.fw,hwx.more,hwx.cp⟩⟩,Nat.le_of_lt nM.le,Gh.sub (by((repeat refine⟨rfl,?_⟩);exact trivial))⟩
     ·rw[show xF P.gen y=false from h7]at hc;refine goN ?_;refine⟨x.arcs.length-(j+1),_,_,by omega,⟨j+1,_,M+1,rfl,hjl,hc,rfl,rfl,nM⟩,Nat.le_of_lt nM.le,Gh.sub ?_⟩;rw[<-qY];(repeat refine⟨rfl,?_⟩);exact trivial
    ·refine goN ?_;have hjl:j=x.arcs.length:=by
      have:¬ (j:Int)<x.arcs.length:=by simpa using h6
      omega
     subst hjl;rw[List.drop_length]at hc;obtain rfl:=sI hc;exact⟨_,_,⟨H,M,rfl,rfl,hm⟩,Nat.le_of_lt hm.le,Gh.sub (by((repeat refine⟨rfl,?_⟩);exact trivial))⟩
   ·refine goN ?_;have htl:t=l.length:=by
     have:¬ (t:Int)<l.length:=by simpa using h4
     omega
    subst htl;rw[List.drop_length]at hpi;obtain rfl:=sI hpi;exact⟨_,_,⟨H,M,rfl,rfl,hm⟩,Nat.le_of_lt hm.le,Gh.sub (by((repeat refine⟨rfl,?_⟩);exact trivial))⟩
  subst h3;obtain rfl:=sI hpm;refine goN ?_;exact⟨_,_,⟨H,M,rfl,rfl,hm⟩,Nat.le_of_lt hm.le,Gh.sub trivial⟩
 ·rintro _ _ _ ⟨t,N,H,M,rfl,ht,hpi,rfl,rfl,hm⟩;refine goN ?_;refine cU rfl (fun h4=>?_) (fun h4=>?_)
  ·have htl:t<l.length:=by simpa using h4
   obtain⟨q,hq⟩:∃a,l[t]? = some a:=⟨_,List.getElem?_eq_getElem htl⟩;have hid:aC l (t:Int)=some q:=by rw[aC,if_pos ⟨by omega,by omega⟩];simpa using hq
   have hdr:l.drop t=q::l.drop (t+1):=by rw[List.drop_eq_getElem_cons htl];rw[List.getElem?_eq_getElem htl]at hq;cases hq;rfl
   have hwr:IntKind.i64.wrap ((t:Int)+1)=((t+1:Nat):Int):=by rw[kR (by omega) (by omega)];rfl
   rw[hdr]at hpi;obtain⟨x,hx,hpi⟩:=aB hpi;obtain⟨hall,hpi⟩:Bo N P.gen n x.arcs=true/\_:=by rcases hc:Bo N P.gen n x.arcs with _|_;rw[hc]at hpi;cases hpi;rw[hc]at hpi;exact⟨rfl,hpi⟩
   obtain⟨hal,hpi⟩:=bU hpi;have hwx:=hm.wf hx
   haveI:=hm.ph.gp
   haveI:=hm.ph.gn hx
   haveI:=hm.gb
   refine goN ?_;apply aL;refine goN ?_;refine aP hid ?_;refine goN ?_;refine dE [] ?_;refine c8 ?_;refine gZ rfl (fun s=>E9 s nm x.more x.moA P.gen) pB ?_;refine c8 ?_;refine aZ ⟨by kernel_rfl,trivial,?_⟩;refine goN ?_;refine RS.w rfl (Cj rfl rfl) ?_;refine aI rfl (mn (q:=tU N P.gen n) HX hb107 hal (fun a ha=>?_)) HY ?_;have h6:=List.all_eq_true.1 hall a ha;obtain⟨r,hr⟩:=Option.isSome_iff_exists.1 h6;have h7:=sn (nx:=M) hm.ph hm.bx n hr (by show a.to<N.length;rw[hm.len];exact hwx.arcs a ha);have h8:tU N P.gen n a= !Nat.beq r a.to:=by simp only[tU,hr]
   rw[h8];exact h7;refine goN ?_;have Tj:∀{b:Bool},(jP P.gen x != x.kind||(decide (((nJ P.gen x).length:Int)>0)||x.arcs.any (tU N P.gen n)))=b->mX kp kr st nm P h nx (N.set q { x with ch:=b,chA:=P.gen }) (ug H (nm q) (.row (jJ nm { x with ch:=b,chA:=P.gen }) 103)) M/\XW P.gen n (l.drop (t+1)) (N.set q { x with ch:=b,chA:=P.gen })=some N1:=fun{b} hb=>⟨hm.put _ hx ⟨hwx.arcs,hwx.fw,hwx.more,hwx.cp⟩,by rw[<-hb];exact hpi⟩;cases ZE:jP P.gen x != x.kind with
   |true=>obtain⟨g1,g2⟩:=Tj (b:=true) (by rw[ZE];rfl);refine dE [] ?_;refine c8 ?_;refine RD.call rfl (eG rfl oZ rfl).2 (UZ hm.ph hx) rfl rfl ?_;refine c8 ?_;refine pI ?_;refine aZ ⟨by kernel_rfl,trivial,?_⟩;refine goN ?_;refine⟨l.length-(t+1),_,_,by omega,⟨t+1,_,_,M,rfl,htl,g2,rfl,rfl,g1⟩,Nat.le_of_lt hm.le,Gh.sub ?_⟩;rw[<-hwr];(repeat refine⟨rfl,?_⟩);exact trivial
   |false=>
    cases E5:decide (((cond (x.moA != P.gen) [] x.more).length:Int)>0)with
    |true=>obtain⟨g1,g2⟩:=Tj (b:=true) (by rw[ZE,show decide (((nJ P.gen x).length:Int)>0)=true from E5];rfl);refine dE [] ?_;refine c8 ?_;refine RD.call rfl (eG rfl oZ rfl).2 (UZ hm.ph hx) rfl rfl ?_;refine c8 ?_;refine pI ?_;refine aZ ⟨by kernel_rfl,trivial,?_⟩;refine goN ?_;refine⟨l.length-(t+1),_,_,by omega,⟨t+1,_,_,M,rfl,htl,g2,rfl,rfl,g1⟩,Nat.le_of_lt hm.le,Gh.sub ?_⟩;rw[<-hwr];(repeat refine⟨rfl,?_⟩);exact trivial
    |false=>obtain⟨g1,g2⟩:=Tj (b:=x.arcs.any (tU N P.gen n)) (by rw[ZE,show decide (((nJ P.gen x).length:Int)>0)=false from E5];rfl);refine dE [] ?_;refine c8 ?_;refine RD.call rfl (eG rfl oZ rfl).2 (UZ hm.ph hx) rfl rfl ?_;refine c8 ?_;refine pI ?_;refine aZ ⟨by kernel_rfl,trivial,?_⟩;refine goN ?_;refine⟨l.length-(t+1),_,_,by omega,⟨t+1,_,_,M,rfl,htl,g2,rfl,rfl,g1⟩,Nat.le_of_lt hm.le,Gh.sub ?_⟩;rw[<-hwr];(repeat refine⟨rfl,?_⟩);exact trivial
  ·refine goN ?_;have htl:t=l.length:=by
    have:¬ (t:Int)<l.length:=by simpa using h4
    omega
   subst htl;rw[List.drop_length]at hpi;obtain rfl:=sI hpi;exact⟨_,_,⟨H,M,rfl,rfl,hm⟩,Nat.le_of_lt hm.le,Gh.sub (by((repeat refine⟨rfl,?_⟩);exact trivial))⟩
end
end Go.Proofs
