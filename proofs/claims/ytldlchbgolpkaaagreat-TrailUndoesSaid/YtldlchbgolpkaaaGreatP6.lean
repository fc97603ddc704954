import Derived.Test.YtldlchbgolpkaaaGreatP5
set_option linter.all false
namespace Go.Vx
open Go Go.Rx
variable{n:Nat}
theorem On{b:Nat}(h1:n*b<=140737488355328)(h2:n<=140737488355328):yM n b=true:=by
 simp[yM,Nat.ble_eq_true_of_le h1,Nat.ble_eq_true_of_le h2]
variable{e:TypeId}
theorem ob{s:S}{i off:Nat}{l:List Value}{md:Nat}(hl:lk s.h i=some (.inl (l,e,md)))(h:off+n<=l.length):pF s (some ⟨i,off,none⟩) n=some ((l.drop off).take n):=by
 cases n with|zero=>simp[pF]|succ n=>simp only[pF,hl];exact Nl h
theorem qon(s:S)(b:Option Addr):pF s b 0=some []:=rfl
section
variable{T:Tb}{x:Cx}(hx:kF x)
include hx
variable{sz:Nat}
variable{k:Nat}
variable{new:List U}
theorem wq(dR:0<sz){u:U}{v:Value}(h:wJ x.X sz u=some (k,new))(hr:aD x u v):∃b c vs,yO v=.slice b k c/\(v=.slice b k c\/k=0/\b=none/\c=0/\new=[]/\∃r,v=.chan (some r))/\pF x.s b (k*sz)=some vs/\bF x new vs/\okL new=true:=by
 unfold wJ at h;cases u with
 |nils=>simp only[zA,zB]at h;obtain⟨rfl,rfl⟩:=h;simp only[aD]at hr;subst hr;exact⟨none,0,[],rfl,.inl rfl,by rw[Nat.zero_mul];rfl,bF.nil x,rfl⟩
 |isl t l=>simp only at h;split at h;rename_i cP;simp only[zA,zB]at h;obtain⟨rfl,rfl⟩:=h;simp only[aD]at hr;rcases hr with⟨rfl,rfl |⟨r,rfl⟩⟩|⟨i,off,c,rfl,_,dA⟩;exact⟨none,0,[],rfl,.inl rfl,by rw[zS,Nat.zero_mul];rfl,bF.nil x,rfl⟩;exact⟨none,0,[],rfl,.inr ⟨rfl,rfl,rfl,rfl,r,rfl⟩,by rw[zS,Nat.zero_mul];rfl,bF.nil x,rfl⟩;by_cases cZ:l=[];subst cZ;exact⟨_,c,[],rfl,.inl rfl,by rw[zS,Nat.zero_mul];rfl,bF.nil x,rfl⟩;rcases dA with dA |⟨row,e,iY,g1,g2,g3⟩;exact absurd dA cZ;have:=z58 g2 cZ cP;subst this;obtain⟨f1,f2⟩:=qvs g2;have b7:=xl g2;rw[List.length_drop]at b7;have:0<l.length*iY:=Nat.mul_pos (by cases l<;>simp_all) dR;exact⟨_,c,_,rfl,.inl rfl,ob g1 (by omega),f1,f2⟩;cases h
 |sl k' off n c=>simp only at h;rcases dA:rowOf x.X k' with _|l;simp[dA]at h;simp only[dA]at h;rcases hs:kS l off (n*sz)with _|cs;simp[hs]at h;simp only[hs,zA,zB]at h;obtain⟨rfl,rfl⟩:=h;obtain⟨e,hg,hl⟩:=np dA;obtain⟨i,hi,rfl,_⟩:=OK hl hr;obtain⟨_,k1,i',lv,e1,e2,e3⟩:=hx.ok k' _ hg;rw[hi]at e1;cases e1;obtain⟨s1,s2⟩:=z5i hs e3;obtain⟨q1,rfl⟩:=SL hs;exact⟨_,c,_,rfl,.inl rfl,ob e2 (by rw[<-e3.2];exact q1),Nz s2,by rw[Fk];exact OP (HA k1 _) _⟩
 |vl k' st off n=>simp only at h;rcases hv:wK x.X k' st with _|q;simp[hv]at h;obtain⟨l,e,iY⟩:=q;obtain⟨hg,hl⟩:=jh hv;simp only[hv,beq_eq]at h;by_cases hz:iY=sz;subst hz;simp only[yC,zC]at h;rcases hs:kS l (off*iY) (n*iY)with _|cs;simp[hs]at h;simp only[hs,zA,zB]at h;obtain⟨rfl,rfl⟩:=h;obtain⟨q1,rfl⟩:=SL hs;by_cases hn:n=0;subst hn;obtain⟨_,_,_,_,uH⟩:=Y9 hl hr;obtain⟨b,c,rfl⟩:=co uH;exact⟨b,c,[],rfl,.inl rfl,by rw[Nat.zero_mul];rfl,by simpa using bF.nil x,by simp[okL]⟩;obtain⟨i,l0,e0,Nd,l',h1,h2,rfl,h4,h5,h6,h7⟩:=dg hx hl hr (by omega);have:=hg.symm.trans h1;cases this;obtain⟨s1,s2⟩:=z5i hs h5;exact⟨_,_,_,rfl,.inl rfl,ob h4 (by rw[<-h5.2];exact q1),s2,OP (HA h7 _) _⟩;simp[hz]at h
 |_=>simp at h
omit hx in
theorem jk{l:List U}{e:TypeId}{sz N:Nat}{c:lK}:aD ⟨mA x.Y x.X.nx (some x.s.nx),newU x.X (.vec l e sz 0),⟨(x.s.nx,c)::x.s.h,x.s.nx+1⟩⟩ (.vl x.X.nx 0 0 N) (.slice (some ⟨x.s.nx,0,none⟩) N bX):=by
 simp only[aD];refine⟨rfl,by simp[newU],fun b hb=>?_⟩;simp only[newU,dY,if_true,zA]at hb;subst hb;exact⟨zF _,fun _=>⟨l,e,sz,rfl,by simp[mA,LO]⟩⟩
omit hx in
theorem og{e:TypeId}{sz:Nat}{o:Option Addr}(ho:∀a,o=some a->a.spot=none):aD ⟨mA x.Y x.X.nx none,newU x.X (.vec [] e sz 0),x.s⟩ (.vl x.X.nx 0 0 0) (.slice o 0 0):=by
 simp only[aD];refine⟨rfl,by simp[newU],fun b hb=>?_⟩;simp only[newU,dY,if_true,zA]at hb;subst hb;exact⟨zF _,fun _=>⟨[],e,sz,rfl,by simpa[mA,LO]using ho⟩⟩
variable{t:TypeId}
variable{xt:TypeId}
theorem qog{e2:TypeId}{by_:Nat}{z:Value}(hd:T.und t=some (.slice e))(dK:T.und xt=some (.slice e2))(hi:T.inf e=some (sz+1,by_,z))(hz:Nat.beq z.cells.toList.length (sz+1)=true)
  {o:Option Addr} (ho:∀a,o=some a->a.spot=none) {b:Option Addr} {c:Nat} {vs:List Value} (hc:pF x.s b (k*(sz+1))=some vs) (hr:bF x new vs) (hk:okL new=true) (b7:new.length=k*(sz+1)) (bN:k*by_<=140737488355328/\k<=140737488355328):
  ∃v y,vQ T x.s t xt (.slice o 0 0) (.slice b k c)=some (v,y.s)/\y.X=newU x.X (.vec new e (sz+1) 0)/\aD y (.vl x.X.nx 0 0 k) v/\Out x y:=by
 cases k with|zero=>have:new=[]:=List.eq_nil_of_length_eq_zero (by rw[b7];simp);subst this;rw[hr.nil_inv]at hc;refine⟨.slice o 0 0,⟨mA x.Y x.X.nx none,newU x.X (.vec [] e (sz+1) 0),x.s⟩,?_,rfl,og ho,xz hx e (sz+1) (by omega)⟩;simp only[vQ,B2,yO,zD,xU,hd,dK,hi,hc,sW,zC,GF];rfl|succ k=>refine⟨.slice (some ⟨x.s.nx,0,none⟩) (k+1) bX,_,?_,rfl,jk,jq hx hr hk e (by omega)⟩;simp only[vQ,B2,yO,zD,xU,hd,dK,hi,hc,SO hr hk,zC,XQ,GF,show Nat.ble (k+1) 0=false from rfl,zD,Nat.zero_mul,qon,hz,Nat.zero_add,On bN.1 bN.2,List.nil_append,Rx.newRow]
theorem oo{e2:TypeId}{by_:Nat}{z:Value}(hd:T.und t=some (.slice e))(dK:T.und xt=some (.slice e2))(hi:T.inf e=some (sz+1,by_,z))(hz:Nat.beq z.cells.toList.length (sz+1)=true)
  {o:Option Addr} {cp:Nat} {old:List U} {ov:List Value} (Wq:cp<bX) (kZ:pF x.s o (n*(sz+1))=some ov) (hor:bF x old ov) (HJ:okL old=true) {b:Option Addr} {c:Nat} {vs:List Value} (hc:pF x.s b (k*(sz+1))=some vs) (hr:bF x new vs) (hk:okL new=true)
  (Q1:0<k) (DO:cp<n+k) (bN:(n+k)*by_<=140737488355328/\n+k<=140737488355328):
  ∃v y,vQ T x.s t xt (.slice o n cp) (.slice b k c)=some (v,y.s)/\y.X=newU x.X (.vec (old++new) e (sz+1) 0)/\aD y (.vl x.X.nx 0 0 (n+k)) v/\Out x y/\∃b n c,v=.slice (some b) n c:=by
 cases k with
 |zero=>omega|succ k=>
  refine⟨.slice (some ⟨x.s.nx,0,none⟩) (n+(k+1)) bX,_,?_,rfl,jk,jq hx (hor.append hr) (JB HJ hk) e (by omega),_,_,_,rfl⟩;have h1:Nat.ble (n+(k+1)) cp=false:=by rcases h:Nat.ble (n+(k+1)) cp with _|_;rfl;have:=zY h;omega
  simp only[vQ,B2,yO,zD,xU,hd,dK,hi,hc,SO hr hk,zC,XQ,oQ Wq,h1,zD,kZ,hz,On bN.1 bN.2,Rx.newRow]
theorem Gp{K:Nat}{l l1:List U}{st:Nat}(hg:gt x.X.h K=some (.vec l e sz st))(o:Option Nat)(s':S)(oA:∀i b,lk x.s.h i=some b->x.Y K≠some i->lk s'.h i=some b)(tJ:∀i,o=some i->x.Y K=some i\/x.s.nx<=i)
  (gO:∀i b,lk s'.h i=some b->i<s'.nx) (hk:okL l1=true) (hB:∀y:Cx,y.s=s'->Mo x.X.nx x y->l1=[]/\o=none\/∃i l',o=some i/\lk s'.h i=some (.inl (l',e,sz+2))/\bF y l1 l'):
  Out x ⟨mA x.Y K o,⟨ug x.X.h K (.vec l1 e sz (st+1)),x.X.nx⟩,s'⟩:=by
 have dR:0<sz:=(hx.ok K _ hg).2.2.1;refine step1 hx K (.vec l1 e sz (st+1)) (zF _) (hx.ok K _ hg).1 (fun k hk=>⟨by simp[BK,Ne.symm hk],Z' _ _ hk⟩) (by simp[BK,hg]) (.inl ⟨_,hg,Nat.le_succ _,fun h=>by simp[B.st]at h⟩) (fun i b hb cZ=>oA i b hb (cZ _ hg)) (fun i hi=>?_) gO (fun hm=>⟨hk,dR,?_⟩);change mA _ _ _ _=some i at hi;rw[ik]at hi;rcases tJ i hi with h |h;exact .inl ⟨_,hg,h⟩;exact .inr h;rcases hB _ rfl hm with⟨h1,h2⟩|⟨i,l',h1,h2,h3⟩;exact .inl ⟨h1,by simp[mA,h2]⟩;exact .inr ⟨i,l',by simp[mA,h1],h2,h3⟩
omit hx in
theorem Gf{K:Nat}{l l1:List U}{e:TypeId}{sz st N:Nat}(hx:kF x)(hg:gt x.X.h K=some (.vec l e sz st)){o:Option Nat}{s':S}{v:Value}(h1:v.oneCell'=true)(h:LO 0 N v sz o):
  aD ⟨mA x.Y K o,⟨ug x.X.h K (.vec l1 e sz (st+1)),x.X.nx⟩,s'⟩ (.vl K (st+1) 0 N) v:=by
 simp only[aD];refine⟨h1,(hx.ok K _ hg).1,fun b hb=>?_⟩;simp only[BK,if_true,hg,zM,zA]at hb;subst hb;exact⟨zF _,fun _=>⟨l1,e,sz,rfl,by simpa[mA]using h⟩⟩
omit hx in
theorem z5p{sz:Nat}{u:U}{k:Nat}{new:List U}(h:wJ x.X sz u=some (k,new)):new.length=k*sz:=by
 unfold wJ at h;cases u with
 |nils=>simp only[zA,zB]at h;obtain⟨rfl,rfl⟩:=h;simp
 |isl t l=>
  simp only at h;split at h;rename_i cP;simp only[zA,zB]at h;obtain⟨rfl,rfl⟩:=h;have:=z8v cP;clear cP;induction l with
  |nil=>simp|cons c l ih=>have h1:=this c (by simp);have h2:=ih fun d hd=>this d (by simp[hd]);simp only[List.flatten_cons,zU,zO,Nat.succ_mul,h2,h1];omega
  cases h
 |sl k' off n c=>simp only at h;rcases dA:rowOf x.X k' with _|l;simp[dA]at h;simp only[dA]at h;rcases hs:kS l off (n*sz)with _|cs;simp[hs]at h;simp only[hs,zA,zB]at h;obtain⟨rfl,rfl⟩:=h;obtain⟨q1,rfl⟩:=SL hs;rw[wo];simp;omega
 |vl k' st off n=>simp only at h;rcases hv:wK x.X k' st with _|q;simp[hv]at h;obtain⟨l,e,iY⟩:=q;simp only[hv,beq_eq]at h;by_cases hz:iY=sz;simp only[hz,yC,zC]at h;rcases hs:kS l (off*sz) (n*sz)with _|cs;simp[hs]at h;simp only[hs,zA,zB]at h;obtain⟨rfl,rfl⟩:=h;obtain⟨q1,rfl⟩:=SL hs;simp;omega;simp[hz]at h
 |_=>simp at h
theorem qzx{a b r:U}{va vb:Value}{X':Sg}(h:MC T x.X t xt a b=some (r,X'))(ha:aD x a va)(hb:aD x b vb):∃v y,vQ T x.s t xt va vb=some (v,y.s)/\y.X=X'/\aD y r v/\Out x y:=by
 unfold MC at h;rcases hd:T.und t with _|d;simp[hd]at h;cases d with
 |slice e=>
  rcases dK:T.und xt with _|d2;simp[hd,dK]at h;cases d2 with
  |slice e2=>
   simp only[hd,dK]at h;rcases hi:T.inf e with _|q;simp[hi]at h;obtain⟨sz,by_,z⟩:=q;cases sz with
   |zero=>simp[hi]at h|succ sz=>
    simp only[hi]at h;rcases hz:Nat.beq z.cells.toList.length (sz+1)with _|_;simp only[hz,zD]at h;cases h;simp only[hz,zC]at h;rcases tD:wJ x.X (sz+1) b with _|q;simp[tD]at h;obtain⟨k,new⟩:=q;simp only[tD]at h;have b7:=z5p tD;obtain⟨bb,c,vs,A3,_,hc,hr,hk⟩:=wq hx (by omega) tD hb;have happ:∀va',vQ T x.s t xt va' vb=vQ T x.s t xt va' (.slice bb k c):=fun va'=>by unfold vQ;rw[A3];simp only[yO,B2,zD]
    rw[happ];cases a with
    |nils=>simp only at h;split at h;rename_i bN;simp only[zA,zB]at h;obtain⟨rfl,rfl⟩:=h;simp only[aD]at ha;subst ha;exact qog hx hd dK hi hz (by simp) hc hr hk b7 bN;cases h
    |isl tt l=>
     rcases tt with _|_;simp at h;simp only at h;split at h
     ·rename_i bN;obtain⟨r1,r2,r3,r4⟩:=bN;simp only[zA,zB]at h;obtain⟨rfl,rfl⟩:=h;obtain⟨o,c0,ov,_,e1,e2,e3,e4⟩:=wq hx (sz:=sz+1) (by omega) (u:=.isl true l) (k:=l.length) (new:=l.flatten) (by simp only[wJ,r4,if_true]) ha;rcases e1 with e1 |⟨el,rfl,rfl,enew,rr,rfl⟩
      case inr=>
       have Kj:l=[]:=List.eq_nil_of_length_eq_zero el;subst Kj;obtain⟨v,y,h1,h2,h3,h4,b1,n1,c1,hv⟩:=oo (T:=T) hx hd dK hi hz (n:=0) (cp:=0) (o:=none) (old:=[]) (ov:=[]) (by simp[bX]) (by rw[Nat.zero_mul];rfl) (bF.nil x) rfl hc hr hk r3 (by omega) ⟨by simpa using r1,by simpa using r2⟩;have h0:xU T x.s t xt (.slice none 0 0) (.slice bb k c)=some (v,y.s):=by simpa only[vQ,B2,yO,zD]using h1
       refine⟨v,y,?_,by simpa using h2,by simpa using h3,h4⟩;simp only[vQ,B2,yO,zC,zD,h0,hv]
      subst e1;have KH:c0=l.length/\c0<bX:=by simp only[aD]at ha;rcases ha with⟨rfl,h1 |⟨_,h1⟩⟩|⟨i,off,c1,h1,h2,_⟩;cases h1;simp[bX];cases h1;cases h1;exact h2 trivial
      obtain⟨v,y,h1,h2,h3,h4,_⟩:=oo hx hd dK hi hz KH.2 e2 e3 e4 hc hr hk r3 (by omega) ⟨r1,r2⟩;exact⟨v,y,h1,h2,h3,h4⟩
     cases h
    |sl k' off n cp=>
     simp only at h;rcases dA:rowOf x.X k' with _|l;simp[dA]at h;simp only[dA]at h;rcases hs:kS l off (n*(sz+1))with _|old;simp[hs]at h;simp only[hs]at h;obtain⟨e',hg,hl⟩:=np dA;obtain⟨i,jA,P_,Wq,_⟩:=OK hl ha;split at h;rename_i h0;obtain⟨rfl,rfl⟩:=h0;split at h;rename_i bN;simp only[zA,zB]at h;obtain⟨rfl,rfl⟩:=h;subst P_;exact qog hx hd dK hi hz (by simp) hc hr hk b7 bN;cases h;split at h;rename_i DO;split at h;rename_i bN;obtain⟨r1,r2,r3⟩:=bN;simp only[zA,zB]at h;obtain⟨rfl,rfl⟩:=h;obtain⟨o,c0,ov,_,e1,e2,e3,e4⟩:=wq hx (sz:=sz+1) (by omega) (u:=.sl k' off n cp) (k:=n) (new:=rN old) (by simp only[wJ,dA,hs]) ha;have:o=some ⟨i,off,none⟩/\c0=cp:=by rw[P_]at e1;rcases e1 with e1 |⟨_,_,_,_,_,e1⟩;cases e1;exact⟨rfl,rfl⟩;cases e1
     obtain⟨rfl,rfl⟩:=this;rw[P_];obtain⟨v,y,h1,h2,h3,h4,_⟩:=oo hx hd dK hi hz Wq e2 e3 e4 hc hr hk r3 DO ⟨r1,r2⟩;exact⟨v,y,h1,h2,h3,h4⟩;cases h;cases h
    |vl K st off n=>
     simp only at h;rcases hg:gt x.X.h K with _|b0;simp[hg]at h;cases b0 with
     |vec l e' iY cR=>
      simp only[hg,beq_eq]at h;by_cases bY:cR=st;by_cases he:e'=e;by_cases dR:iY=sz+1;subst bY;subst he;subst dR;simp only[yC,zC]at h;rcases hs:kS l (off*(sz+1)) (n*(sz+1))with _|p;simp[hs]at h;simp only[hs]at h;split at h;rename_i bN;obtain⟨r1,r2,r3⟩:=bN;simp only[zA,zB]at h;obtain⟨rfl,rfl⟩:=h;obtain⟨l0,e0,Nd,Q4,uH⟩:=Y9 (x:=x) (by simp[bU,hg,B.st]) ha;have:=hg.symm.trans Q4;cases this;obtain⟨_,k1,k2,h3⟩:=hx.ok K _ hg;obtain⟨q1,rfl⟩:=SL hs;rcases h3 with⟨rfl,kO⟩|⟨i,l',e1,e2,e3⟩;rw[kO]at uH;obtain⟨rfl,rfl,o,rfl,ho⟩:=uH;cases k with
      |zero=>have:new=[]:=List.eq_nil_of_length_eq_zero (by rw[b7];simp);subst this;rw[hr.nil_inv]at hc;refine⟨.slice o 0 0,⟨mA x.Y K none,⟨ug x.X.h K (.vec [] e' (sz+1) (cR+1)),x.X.nx⟩,x.s⟩,?_,by simp,Gf hx hg rfl ⟨rfl,rfl,o,rfl,ho⟩,Gp hx hg none x.s (fun i b hb _=>hb) (by simp) hx.bd rfl (fun y _ _=>.inl ⟨rfl,rfl⟩)⟩;simp only[vQ,B2,yO,zD,xU,hd,dK,hi,hc,sW,zC,GF];rfl|succ k=>
       refine⟨.slice (some ⟨x.s.nx,0,none⟩) (0+(k+1)) bX,⟨mA x.Y K (some x.s.nx),⟨ug x.X.h K (.vec new e' (sz+1) (cR+1)),x.X.nx⟩,Rx.newRow x.s vs e' (sz+1+2)⟩,?_,by simp,Gf hx hg rfl (.inr (by simp)),Gp hx hg (some x.s.nx) _ (fun i b hb _=>?_) (fun i hi=>.inr (by cases hi;exact zF _)) (fun i b hb=>?_) hk (fun y hy hm=>.inr ⟨x.s.nx,vs,rfl,?_,hm.ke.E hr.bel hr⟩)⟩;have h1:Nat.ble (0+(k+1)) 0=false:=by rcases h:Nat.ble (0+(k+1)) 0 with _|_;rfl;have:=zY h;omega
       simp only[vQ,B2,yO,zD,xU,hd,dK,hi,hc,SO hr hk,zC,XQ,GF,h1,zD,Nat.zero_mul,qon,hz,On r1 r2,List.nil_append];have:=hx.bd i b hb;simp[Rx.newRow,mS,show x.s.nx≠i by omega,hb];simp only[Rx.newRow,mS]at hb ⊢;split at hb;omega;exact Nat.lt_succ_of_lt (hx.bd i b hb);simp[Rx.newRow,mS]
      rw[e1]at uH;rcases uH with⟨h0,rfl,_⟩|rfl;omega;have yY:cV x.s i=some (l',e',sz+1+2):=by simp[cV,e2]
      have hcc:Nat.blt (bX+off) bX=false:=H8 (by omega);have B7:bQ (bX+off)=off:=by simp[bQ]
      have Vg:xK l' (off*(sz+1)) (n*(sz+1))=some ((l'.drop (off*(sz+1))).take (n*(sz+1))):=Nl (by rw[<-e3.2];exact q1);have eH:Nat.beq (off*(sz+1)) (off*(sz+1))=true:=by simp
      cases k with
      |zero=>
       have:new=[]:=List.eq_nil_of_length_eq_zero (by rw[b7];simp);subst this;rw[hr.nil_inv]at hc;have h0:off=0/\n*(sz+1)=l.length:=by omega
       obtain⟨rfl,DO⟩:=h0;have hp:(l.drop (0*(sz+1))).take (n*(sz+1))++[]=l:=by simp[DO]
       rw[hp];refine⟨.slice (some ⟨i,0*(sz+1),none⟩) n (bX+0),⟨mA x.Y K (some i),⟨ug x.X.h K (.vec l e' (sz+1) (cR+1)),x.X.nx⟩,x.s⟩,?_,by simp,Gf hx hg rfl (.inr rfl),Gp hx hg (some i) x.s (fun i b hb _=>hb) (fun j hj=>.inl (by cases hj;exact e1)) hx.bd k1 (fun y _ hm=>.inr ⟨i,l',rfl,e2,hm.ke.E e3.bel e3⟩)⟩;simp only[vQ,B2,yO,zD,xU,hd,dK,hi,hc,sW,zC,hcc,zD,yY,Nat.beq_refl,B7,Vg]
      |succ k=>have v6:bF x ((l.drop (off*(sz+1))).take (n*(sz+1))++new) ((l'.drop (off*(sz+1))).take (n*(sz+1))++vs):=((e3.drop _).take _).append hr;have hpk:=JB (OP (HA k1 (off*(sz+1))) (n*(sz+1))) hk;refine⟨.slice (some ⟨x.s.nx,0,none⟩) (n+(k+1)) bX,⟨mA x.Y K (some x.s.nx),⟨ug x.X.h K (.vec ((l.drop (off*(sz+1))).take (n*(sz+1))++new) e' (sz+1) (cR+1)),x.X.nx⟩,⟨(x.s.nx,.inl ((l'.drop (off*(sz+1))).take (n*(sz+1))++vs,e',sz+1+2))::rm x.s.h i,x.s.nx+1⟩⟩,?_,rfl,Gf hx hg rfl (.inr (by simp)),Gp hx hg (some x.s.nx) _ (fun j b hb cZ=>?_) (fun i hi=>.inr (by cases hi;exact zF _)) (fun j b hb=>?_) hpk (fun y hy hm=>.inr ⟨x.s.nx,_,rfl,?_,hm.ke.E v6.bel v6⟩)⟩;simp only[vQ,B2,yO,zD,xU,hd,dK,hi,hc,SO hr hk,zC,XQ,hcc,zD,yY,Nat.beq_refl,B7,Vg,hz,On r1 r2];have:=hx.bd j b hb;have lS:i≠j:=fun h=>cZ (by rw[e1,h]);simp[mS,qu,show x.s.nx≠j by omega,lS,hb];simp only[mS,qu]at hb ⊢;split at hb;omega;split at hb;cases hb;exact Nat.lt_succ_of_lt (hx.bd j b hb);simp[mS]
      cases h;simp[bY,he,dR]at h;simp[bY,he]at h;simp[bY]at h
     |_=>simp[hg]at h
    |_=>simp at h
  |_=>simp[hd,dK]at h
 |_=>simp[hd]at h
end
theorem zba(es:List ME)(i:Nat)(f:ME->ME):I0 es i f=es.modify i f:=by
 induction es generalizing i with|nil=>simp[I0]|cons e es ih=>cases i<;>simp[I0,ih]
theorem z2p(es:List ME)(i:Nat):Fw es i=es.eraseIdx i:=by
 induction es generalizing i with|nil=>simp[Fw]|cons e es ih=>cases i<;>simp[Fw,ih]
variable{x:Cx}
variable{es:List ME}
variable{vs:List MapEntry}
variable{k:U}
variable{v:U}
variable{kv:Value}
variable{vv:Value}
theorem u7.snoc(h:u7 x es vs)(hk:aD x k kv)(hv:aD x v vv)(b:Nat):u7 x (es++[⟨k,v,b⟩]) (vs++[⟨kv,vv,b⟩]):=by
 refine⟨by simp[h.1],fun i e he=>?_⟩;rw[List.getElem?_append]at he ⊢;rw[<-h.1];split at he;rename_i aE;simp only[aE,if_true];exact h.2 i e he;rename_i aE;simp only[aE,if_false];cases hj:i-es.length with
 |zero=>simp[hj]at he;subst he;exact⟨⟨kv,vv,b⟩,by simp,hk,hv,rfl⟩|succ j=>simp[hj]at he
theorem u7.mod(h:u7 x es vs)(j:Nat)(hv:aD x v vv):u7 x (I0 es j fun e=>{ e with val:=v }) (NJ vs j fun e=>{ e with val:=vv }):=by
 rw[zba,aj];refine⟨by simp[h.1],fun i e he=>?_⟩;rw[List.getElem?_modify]at he ⊢;rcases hi:es[i]? with _|e0;simp[hi]at he;obtain⟨v0,q1,q2,q3,q4⟩:=h.2 i e0 hi;rw[hi]at he;simp only[Option.map_eq_map,zM,zA]at he;rw[q1];by_cases Kl:j=i;simp only[Kl,if_true]at he ⊢;subst he;exact⟨_,rfl,q2,hv,q4⟩;simp only[Kl,if_false]at he ⊢;subst he;exact⟨_,rfl,q2,q3,q4⟩
theorem u7.erase(h:u7 x es vs)(j:Nat):u7 x (Fw es j) (Y1 vs j):=by
 rw[z2p,quf];refine⟨by simp[List.length_eraseIdx,h.1],fun i e he=>?_⟩;rw[List.getElem?_eraseIdx]at he ⊢;split at he;rename_i aE;simp only[aE,if_true];exact h.2 i e he;rename_i aE;simp only[aE,if_false];exact h.2 _ e he
theorem u7.mono{y:Cx}(hm:Mo x.X.nx x y)(h:u7 x es vs):u7 y es vs:=⟨h.1,fun j e he=>by
  obtain⟨v,q1,q2,q3,q4⟩:=h.2 j e he;exact⟨v,q1,hm.ke _ _ (aD.bel _ _ q2) q2,hm.ke _ _ (aD.bel _ _ q3) q3,q4⟩⟩
theorem qxs{x:Cx}{b:Int}: ∀{es:List ME}{vs:List MapEntry}(i:Nat),u7 x es vs->Lh b es i=S8 b vs i
  | [], vs, i, h => by have : vs = [] := by have := h.1; simpa using this.symm
                       subst this;rfl
  |e::es,[],i,h=> by have:=h.1;simp at this
  |e::es,v::vs,i,h=> by obtain⟨v0,q0,q1,q2,q3⟩:=h.2 0 e rfl;simp at q0;subst q0;have h':u7 x es vs:=⟨by have:=h.1;simpa using this,fun j d hd=> by simpa using h.2 (j+1) d (by simpa using hd)⟩;simp only[Lh,S8,q3,qxs (i+1) h']
section
variable{T:Tb}{x:Cx}(hx:kF x)
include hx
variable{m:U}
variable{mv:Value}
theorem wa{m:U}{r:Nat}{cl:Nat}(hm:aD x (.map r) mv)(hg:gt x.X.h r=some (.map es cl)):∃i es',x.Y r=some i/\mv=.map (some i)/\lk x.s.h i=some (.inr (es',cl))/\u7 x es es'/\D8 x.s i=some (es',cl):=by
 obtain⟨i,hi,rfl⟩:=xp (x:=x) (by simp[bU,hg,B.st]) hm;obtain⟨_,i',es',e1,e2,e3⟩:=hx.ok r _ hg;rw[hi]at e1;cases e1;exact⟨i,es',hi,rfl,e2,e3,by simp[D8,e2]⟩
theorem Y8{r i:Nat}{es1:List ME}{es' Di:List MapEntry}{cl cl1:Nat}(hg:gt x.X.h r=some (.map es cl))(hi:x.Y r=some i)(hl:lk x.s.h i=some (.inr (es',cl)))(hr:u7 x es1 Di):
  Out x ⟨x.Y,OJ x.X r es1 cl1,OB x.s i Di cl1⟩:=
 Gq hx hg hi hl rfl (by simp) fun y h1 h2 hm=>⟨i,Di,h1,h2,hr.mono hm⟩
variable{t:TypeId}
variable{r:U}
variable{X':Sg}
theorem qv3(h:No T x.X t m k v=some (r,X'))(hm:aD x m mv)(hk:aD x k kv)(hv:aD x v vv):∃rv y,XW T x.s t mv kv vv=some (rv,y.s)/\y.X=X'/\aD y r rv/\Out x y:=by
 unfold No at h;rcases hd:T.und t with _|d;simp[hd]at h;cases d with
 |map kt et=>
  cases m with
  |map q=>
   simp only[hd]at h;rcases hkv:toV k with _|kv0;simp[hkv]at h;simp only[hkv]at h;have e0:=(AU _ _ hkv x kv).1 hk;subst e0;rcases h1:oL T 50 kt kv with _|_;simp[h1]at h;rcases h2:plain kv with _|_;simp[h1,h2]at h;simp only[h1,h2,zC]at h;rcases hg:gt x.X.h q with _|b;simp[hg]at h;cases b with
   |map es cl=>simp only[hg]at h;obtain⟨i,es',hi,rfl,hl,hr,ho⟩:=wa hx (m:=.map q) hm hg;rcases hf:BL T kt kv es 0 with _|f;simp[hf]at h;rcases Oz 0 hr hf with⟨rfl,f1⟩|⟨j,u,w,rfl,f1,f2,f3,d,d',f4,f5,f6,f7,f8,f9⟩;simp only[hf,zA,zB]at h;obtain⟨rfl,rfl⟩:=h;exact⟨undef,_,by simp only[XW,hd,h1,h2,zC,ho,f1],rfl,by simp[aD],Y8 hx hg hi hl (hr.snoc hk hv cl)⟩;simp only[Nat.sub_zero]at f4 f6;simp only[hf,iZ,f4]at h;rcases eI:toV d.key with _|kv';simp[eI]at h;simp only[eI]at h;have e1:=(AU _ _ eI x d'.key).1 f7;rcases hveq:AI 50 kv' kv with _|_;simp[hveq]at h;simp only[hveq,zC,zA,zB]at h;obtain⟨rfl,rfl⟩:=h;exact⟨undef,_,by simp only[XW,hd,h1,h2,zC,ho,f1,iZ,f6,e1,hveq],rfl,by simp[aD],Y8 hx hg hi hl (hr.mod j hv)⟩
   |_=>simp[hg]at h
  |_=>simp[hd]at h
 |_=>simp[hd]at h
theorem z0f(h:ao T x.X t m k=some (r,X'))(hm:aD x m mv)(hk:aD x k kv):∃rv y,Gk T x.s t mv kv=some (rv,y.s)/\y.X=X'/\aD y r rv/\Out x y:=by
 unfold ao at h;rcases hd:T.und t with _|d;simp[hd]at h;cases d with
 |map kt et=>
  cases m with
  |map q=>
   simp only[hd]at h;rcases hkv:toV k with _|kv0;simp[hkv]at h;simp only[hkv]at h;have e0:=(AU _ _ hkv x kv).1 hk;subst e0;rcases h1:oL T 50 kt kv with _|_;simp[h1]at h;rcases h2:plain kv with _|_;simp[h1,h2]at h;simp only[h1,h2,zC]at h;rcases hg:gt x.X.h q with _|b;simp[hg]at h;cases b with
   |map es cl=>
    simp only[hg]at h;obtain⟨i,es',hi,rfl,hl,hr,ho⟩:=wa hx (m:=.map q) hm hg;have IG:∀{y:Cx}{p:U}{p':Value}{n:Nat},aD y p p'->aD y (.tup [p,.int .i64 n]) (.tuple #[p',.int .i64 n]):=fun{y p p' n} hp=>by simp only[aD];exact⟨[p',.int .i64 n],rfl,by simp[cT,hp,aD],rfl⟩
    rcases hf:BL T kt kv es 0 with _|f;simp[hf]at h;rcases Oz 0 hr hf with⟨rfl,f1⟩|⟨j,u,w,rfl,f1,f2,f3,d,d',f4,f5,f6,f7,f8,f9⟩;simp only[hf]at h;rcases hinf:T.inf et with _|z;simp[hinf]at h;obtain⟨z1,z2,z⟩:=z;simp only[hinf]at h;rcases hz:iI z with _|zu;simp[hz]at h;simp only[hz,zA,zB]at h;obtain⟨rfl,rfl⟩:=h;exact⟨.tuple #[z,.int .i64 cl],_,by simp only[Gk,hd,h1,h2,zC,ho,f1,hinf],rfl,IG ((O9 _ _ hz).2 _),Y8 hx hg hi hl (hr.snoc hk ((O9 _ _ hz).2 x) cl)⟩;simp only[Nat.sub_zero]at f4 f6;simp only[hf,iZ,f4]at h;rcases eI:toV d.key with _|kv';simp[eI]at h;simp only[eI]at h;have e1:=(AU _ _ eI x d'.key).1 f7;rcases hveq:AI 50 kv' kv with _|_;simp[hveq]at h;simp only[hveq,zC,zA,zB]at h;obtain⟨rfl,rfl⟩:=h;have kI:=Y8 hx hg hi hl (cl1:=cl) hr;exact⟨.tuple #[w,.int .i64 d'.born],_,by simp only[Gk,hd,h1,h2,zC,ho,f1,iZ,f6,e1,hveq],rfl,by rw[f8];exact IG (kI.mo.ke _ _ (aD.bel _ _ f2) f2),kI⟩
   |_=>simp[hg]at h
  |_=>simp[hd]at h
 |_=>simp[hd]at h
theorem z2n{st:U}{sv:Value}(h:te x.X m st v=some (r,X'))(hm:aD x m mv)(hs:aD x st sv)(hv:aD x v vv):∃rv y,Nt x.s mv sv vv=some (rv,y.s)/\y.X=X'/\aD y r rv/\Out x y:=by
 unfold te at h;cases m with
 |map q=>
  cases st with
  |int k b=>
   simp only at h;simp only[aD]at hs;subst hs;rcases hg:gt x.X.h q with _|bb;simp[hg]at h;cases bb with
   |map es cl=>simp only[hg]at h;obtain⟨i,es',hi,rfl,hl,hr,ho⟩:=wa hx (m:=.map q) hm hg;rcases hb:Lh b es 0 with _|j;simp[hb]at h;simp only[hb,zA,zB]at h;obtain⟨rfl,rfl⟩:=h;rw[qxs 0 hr]at hb;exact⟨undef,_,by simp only[Nt,ho,hb],rfl,by simp[aD],Y8 hx hg hi hl (hr.mod j hv)⟩
   |_=>simp[hg]at h
  |_=>simp at h
 |_=>simp at h
theorem zat(h:Dp T x.X t m k=some (r,X'))(hm:aD x m mv)(hk:aD x k kv):∃rv y,GD T x.s t mv kv=some (rv,y.s)/\y.X=X'/\aD y r rv/\Out x y:=by
 unfold Dp at h;rcases hd:T.und t with _|d;simp[hd]at h;cases d with
 |map kt et=>
  cases m with
  |map q=>
   simp only[hd]at h;rcases hkv:toV k with _|kv0;simp[hkv]at h;simp only[hkv]at h;have e0:=(AU _ _ hkv x kv).1 hk;subst e0;rcases h1:oL T 50 kt kv with _|_;simp[h1]at h;simp only[h1,zC]at h;rcases hg:gt x.X.h q with _|b;simp[hg]at h;cases b with
   |map es cl=>simp only[hg]at h;obtain⟨i,es',hi,rfl,hl,hr,ho⟩:=wa hx (m:=.map q) hm hg;rcases hf:BL T kt kv es 0 with _|f;simp[hf]at h;rcases Oz 0 hr hf with⟨rfl,f1⟩|⟨j,u,w,rfl,f1,_⟩;simp only[hf,zA,zB]at h;obtain⟨rfl,rfl⟩:=h;exact⟨undef,_,by simp only[GD,hd,h1,zC,ho,f1],rfl,by simp[aD],Y8 hx hg hi hl hr⟩;simp only[hf,zA,zB]at h;obtain⟨rfl,rfl⟩:=h;exact⟨undef,_,by simp only[GD,hd,h1,zC,ho,f1],rfl,by simp[aD],Y8 hx hg hi hl (hr.erase j)⟩
   |_=>simp[hg]at h
  |_=>simp[hd]at h
 |_=>simp[hd]at h
theorem z71{d s:U}{dv sv:Value}(h:cg T x.X t d s=some (r,X'))(bG:aD x d dv)(C5:aD x s sv):∃rv y,Lf T x.s t dv sv=some (rv,y.s)/\y.X=X'/\aD y r rv/\Out x y:=by
 unfold cg at h;rcases hd:T.und t with _|dd;simp[hd]at h;cases dd with
 |slice e=>
  simp only[hd]at h;rcases hs:cN T e with _|sz;simp[hs]at h;simp only[hs]at h;rcases tD:wJ x.X sz s with _|q;simp[tD]at h;obtain⟨k,cs⟩:=q;simp only[tD]at h;cases d with
  |sl a off n c=>
   simp only at h;rcases dA:rowOf x.X a with _|l;simp[dA]at h;simp only[dA]at h;split at h;cases h;rename_i fC;have tF:0<n/\0<k/\0<sz:=by omega
   obtain⟨b,c0,vs,_,Z_,hc,hr,hk⟩:=wq hx tF.2.2 tD C5;obtain rfl:sv=.slice b k c0:=by rcases Z_ with Z_ |⟨h0,_⟩;exact Z_;omega
   have b7:=z5p tD;rcases hput:pU l off (cs.take (Nat.min k n*sz))with _|l1;simp[hput]at h;simp only[hput]at h;obtain⟨e',hg,hl⟩:=np dA;obtain⟨i,hi,rfl,_⟩:=OK hl bG;obtain⟨_,k1,i',lv,e1,e2,e3⟩:=hx.ok a _ hg;rw[hi]at e1;cases e1;simp only[M2,hg,zA,zB]at h;obtain⟨rfl,rfl⟩:=h;have vY:Nat.min k n*sz<=k*sz:=Nat.mul_le_mul_right _ (Nat.min_le_left _ _);have hmp:0<Nat.min k n*sz:=Nat.mul_pos (by simp[Nat.min_def];split<;>omega) tF.2.2;have i9:pF x.s b (Nat.min k n*sz)=some (vs.take (Nat.min k n*sz)):=by obtain⟨q1,PY⟩:∃q,k*sz=q+1:=⟨k*sz-1,by have:=Nat.mul_pos tF.2.1 tF.2.2;omega⟩;obtain⟨q2,hq2⟩:∃q,Nat.min k n*sz=q+1:=⟨Nat.min k n*sz-1,by omega⟩;rw[PY]at hc;rw[hq2];unfold pF at hc ⊢;rcases b with _|a;simp at hc;simp only at hc ⊢;rcases PZ:lk x.s.h a.block with _|bb;simp[PZ]at hc;rcases bb with⟨l0,e0,md0⟩|⟨m0,c1⟩;simp only[PZ]at hc ⊢;obtain⟨s1,s2⟩:=Ol hc;rw[s1,Nl (by omega),List.take_take];congr 2;omega;simp[PZ]at hc
   have e?:=hr.take (Nat.min k n*sz);have hkt:=OP hk (Nat.min k n*sz);obtain⟨rv,p1,p2,p3⟩:=wx hput e3 e?;have yY:cV x.s i=some (lv,e',0):=by simp[cV,e2]
   refine⟨.int .i64 (Nat.min k n),⟨x.Y,⟨ug x.X.h a (.row l1 e'),x.X.nx⟩,⟨up x.s.h i (.inl (rv,e',0)),x.s.nx⟩⟩,?_,rfl,by simp[aD],Gq hx hg hi e2 rfl (by simp) fun y h1 h2 hm=>⟨p3 k1 hkt,i,rv,h1,h2,hm.ke.E p2.bel p2⟩⟩;simp only[Lf,hd,hs,i9,SO e? hkt,zC];cases hv:vs.take (Nat.min k n*sz)with
   |nil=>exfalso;have h1:=e?.2;rw[hv]at h1;have h2:cs.length=k*sz:=b7;rw[List.length_take,h2,Nat.min_eq_left vY]at h1;simp only[zS]at h1;omega|cons v0 Lo=>rw[hv]at p1;simp only[yY,p1]
  |_=>simp at h
 |_=>simp[hd]at h
theorem qwb{xt:TypeId}{a b:U}{va vb:Value}(h:ic T x.X t xt a b=some (r,X'))(ha:aD x a va)(hb:aD x b vb):∃v y,YC T x.s t xt va vb=some (v,y.s)/\y.X=X'/\aD y r v/\Out x y:=by
 unfold ic at h;split at h;rename_i e kd kd' i hd dK;simp only[aD]at ha hb;subst ha;subst hb;split at h;rename_i sz by_ z hi;split at h;rename_i zu hz;split at h;rename_i hc;obtain⟨c1,c2,c3,c4,c5⟩:=hc;simp only[zA,zB]at h;obtain⟨rfl,rfl⟩:=h;obtain⟨k,hk⟩:∃k,i.toNat=k+1:=⟨i.toNat-1,by omega⟩;have hw:IntKind.i64.wrap i=Int.ofNat (k+1):=by rw[wrap_i64 (by omega) (by omega),<-hk];simp;omega
 have uG:=(OI _ _ hz).2 x;have gU:bF x (vO zu (k+1)) (cC z.cells.toList (k+1)):=Gw uG (k+1);have HJ:okL (vO zu (k+1))=true:=de c5 _;have h1:=SO gU HJ;have bN:yM (k+1) by_=true:=On (by rw[<-hk];exact c2) (by rw[<-hk];exact c3);have hb:Nat.beq z.cells.toList.length (sz+1)=true:=by simp[beq_eq,c4]
 rw[hk];refine⟨.slice (some ⟨x.s.nx,0,none⟩) (k+1) bX,_,?_,rfl,jk,jq hx (Nz gU) (by rw[Fk];exact HJ) e (by omega)⟩;have hn:vQ T x.s t xt (.slice none 0 0) (.int kd' i)=none:=by simp[vQ,B2,yO,xU,hd,dK]
 simp only[YC,hn,xh,hd,dK,hi,hw,bN,hb,h1,zC];rfl;cases h;cases h;cases h;cases h
theorem qwc{xt:TypeId}{a b:U}{va vb:Value}(h:xw T x.X t xt a b=some (r,X'))(ha:aD x a va)(hb:aD x b vb):∃v y,YC T x.s t xt va vb=some (v,y.s)/\y.X=X'/\aD y r v/\Out x y:=by
 unfold xw at h;split at h;rename_i q hq;cases h;obtain⟨v,y,h1,h2,h3,h4⟩:=qzx hx hq ha hb;exact⟨v,y,by simp only[YC,h1],h2,h3,h4⟩;exact qwb hx h ha hb
theorem z2h{d:U}{dv:Value}(h:tg T x.X t d=some (r,X'))(bG:aD x d dv):∃rv y,Y2 T x.s t dv=some (rv,y.s)/\y.X=X'/\aD y r rv/\Out x y:=by
 unfold tg at h;rcases hd:T.und t with _|dd;simp[hd]at h;cases dd with
 |slice e=>
  simp only[hd]at h;rcases hi:T.inf e with _|q;simp[hi]at h;obtain⟨sz,by_,z⟩:=q;simp only[hi]at h;rcases hz:pV z.cells.toList with _|zu;simp[hz]at h;simp only[hz]at h;have uG:=(OI _ _ hz).2 x;rcases HJ:okL zu with _|_;simp[HJ]at h;rw[HJ]at h;rcases b7:Nat.beq z.cells.toList.length sz with _|_;rw[b7]at h;cases h;rw[b7]at h;simp only[zC]at h;have xX:zu.length=sz:=by rw[uG.2];simpa[beq_eq]using b7
  have uG:=Nz uG;have xX:(rN zu).length=sz:=by rw[wo];exact xX
  cases d with
  |nils=>simp only[zA,zB]at h;obtain⟨rfl,rfl⟩:=h;simp only[aD]at bG;subst bG;exact⟨undef,x,by simp[Y2,hd],rfl,by simp[aD],Out.refl hx⟩
  |vl k st off n=>
   simp only at h;rcases hv:wK x.X k st with _|q;simp[hv]at h;obtain⟨l,e',iY⟩:=q;simp only[hv]at h;rcases hs:Nat.beq iY sz with _|_;simp[hs]at h;have C5:iY=sz:=by simpa[beq_eq]using hs
   subst C5;simp only[hs,zC]at h;obtain⟨hg,hl⟩:=jh hv;simp only at hg;obtain⟨l2,e2,sz2,N9,py⟩:=Y9 hl bG;rw[hg]at N9;cases N9;by_cases hn:n=0;simp only[hn,if_true,zA,zB]at h;obtain⟨rfl,rfl⟩:=h;obtain⟨a,c,rfl⟩:=co py;subst hn;exact⟨undef,x,by simp[Y2,hd],rfl,by simp[aD],Out.refl hx⟩;simp only[hn,if_false]at h;rcases hp:pU l (off*iY) (vO (rN zu) n)with _|l1;simp[hp]at h;simp only[hp,zA,zB]at h;obtain⟨rfl,rfl⟩:=h;obtain⟨_,k1,k2,k3⟩:=hx.ok k _ hg;rcases k3 with⟨rfl,eE⟩|⟨i,lv,UJ,N8,UI⟩;exfalso;have:=(qv8 hp).1;simp only[vO,List.length_flatten,List.map_replicate,List.sum_replicate_nat,xX,zS]at this;have:=Nat.mul_pos (Nat.pos_of_ne_zero hn) k2;omega;rw[UJ]at py;simp only[LO]at py;rcases py with⟨_,h0,_⟩|rfl;exact absurd h0 hn;obtain⟨rv,p1,p2,p3⟩:=wx hp UI (Gw uG n);obtain⟨n',rfl⟩:∃n',n=n'+1:=⟨n-1,by omega⟩;have hzo:=de (zu:=rN zu) (by rw[Fk];exact HJ) (n'+1);have h1:=SO (Gw uG (n'+1)) hzo;have yY:cV x.s i=some (lv,e',iY+2):=by simp[cV,N8]
   refine⟨undef,⟨x.Y,⟨ug x.X.h k (.vec l1 e' iY st),x.X.nx⟩,⟨up x.s.h i (.inl (rv,e',iY+2)),x.s.nx⟩⟩,?_,rfl,by simp[aD],Gq hx hg UJ N8 rfl (by rintro l e sz st h;cases h;exact⟨_,rfl⟩) fun y h1 h2 hm=>⟨p3 k1 hzo,k2,.inr ⟨i,rv,h1,h2,hm.ke.E p2.bel p2⟩⟩⟩;simp only[Y2,hd,hi,h1,zC,yY,p1]
  |_=>simp at h
 |_=>simp[hd]at h
theorem zau{tm:List U}{tv:List Value}(ht:bF x tm tv){op:Op}{u:U}(h:nO T x.X tm op=some (u,X')):sC T x tv op u X':=by
 have fin:∀{v:Value}{y:Cx},iV T tv op=none->nR T tv x.s op=none->u6 T tv x.s op=some (v,y.s)->y.X=X'->aD y u v->Out x y->sC T x tv op u X':=fun{v y} h1 h2 h3 h4 h5 h6=>⟨v,y,qyt h1 h2 h3,h4,h5,h6⟩;unfold nO at h;cases op with
 |alloc e=>simp only at h;rcases hi:T.inf e with _|q;simp[hi]at h;obtain⟨a,b,z⟩:=q;simp only[hi]at h;rcases hz:pV z.cells.toList with _|zu;simp[hz]at h;simp only[hz]at h;rcases hk:okL zu with _|_;simp[hk]at h;simp only[hk,zC,zA,zB]at h;obtain⟨rfl,rfl⟩:=h;exact fin (v:=.pointer (some ⟨x.s.nx,0,none⟩)) rfl rfl (by simp only[u6,hi]) rfl (by simp only[aD];exact⟨rfl,Od rfl ⟨_,rfl,rfl⟩⟩) (jr hx ((OI _ _ hz).2 x) hk e)
 |box e o=>simp only at h;rcases ho:c8 tm o with _|a;simp[ho]at h;simp only[ho]at h;obtain⟨va,a1,a2⟩:=j8 ht ho;rcases hc:xT a with _|cs;simp[hc]at h;simp only[hc]at h;obtain⟨c1,c2⟩:=nh a2 hc;simp only[c2,zC,zA,zB]at h;obtain⟨rfl,rfl⟩:=h;exact fin (v:=.pointer (some ⟨x.s.nx,0,none⟩)) rfl rfl (by simp only[u6,a1]) rfl (by simp only[aD];exact⟨rfl,Od rfl ⟨_,rfl,rfl⟩⟩) (jr hx c1 c2 e)
 |store t a b=>simp only at h;rcases ha:c8 tm a with _|au;simp[ha]at h;rcases hb:c8 tm b with _|bu;simp[ha,hb]at h;simp only[ha,hb]at h;obtain⟨va,a1,a2⟩:=j8 ht ha;obtain⟨vb,b1,b2⟩:=j8 ht hb;obtain⟨v,y,h1,h2,h3,h4⟩:=z5v hx h a2 b2;exact fin rfl rfl (by simp only[u6,a1,b1,h1]) h2 h3 h4
 |buildSlice t n ps=>simp only at h;rcases hp:AS tm ps.toList with _|qs;simp[hp]at h;simp only[hp]at h;obtain⟨vs,h1,h2⟩:=na ht hp;obtain⟨v,y,h3,h4,h5,h6⟩:=qv1 hx h h2;exact fin rfl rfl (by simp only[u6,h1,h3]) h4 h5 h6
 |makeSlice t a b=>simp only at h;rcases ha:c8 tm a with _|au;simp[ha]at h;rcases hb:c8 tm b with _|bu;simp[ha,hb]at h;simp only[ha,hb]at h;obtain⟨va,a1,a2⟩:=j8 ht ha;obtain⟨vb,b1,b2⟩:=j8 ht hb;obtain⟨v,y,h1,h2,h3,h4⟩:=z7r hx h a2 b2;exact fin rfl rfl (by simp only[u6,a1,b1,h1]) h2 h3 h4
 |makeMap t r=>
  cases r with
  |none=>simp only[zA,zB]at h;obtain⟨rfl,rfl⟩:=h;exact fin (v:=.map (some x.s.nx)) rfl rfl (by simp only[u6]) rfl (by simp only[aD];exact⟨rfl,Od rfl ⟨_,rfl,rfl⟩⟩) (dp hx (.map [] 0) (.inr ([],0)) fun y h1 h2 hm=>⟨_,[],h1,h2,rfl,by simp⟩)
  |some r=>simp at h
 |mapUpdate t m k v=>simp only at h;rcases hm:c8 tm m with _|mu;simp[hm]at h;rcases hk:c8 tm k with _|ku;simp[hm,hk]at h;rcases hv:c8 tm v with _|vu;simp[hm,hk,hv]at h;simp only[hm,hk,hv]at h;obtain⟨va,a1,a2⟩:=j8 ht hm;obtain⟨vb,b1,b2⟩:=j8 ht hk;obtain⟨vc,c1,c2⟩:=j8 ht hv;obtain⟨w,y,h1,h2,h3,h4⟩:=qv3 hx h a2 b2 c2;exact fin rfl rfl (by simp only[u6,a1,b1,c1,h1]) h2 h3 h4
 |insert t m k v=>simp only at h;rcases hm:c8 tm m with _|mu;simp[hm]at h;rcases hk:c8 tm k with _|ku;simp[hm,hk]at h;rcases hv:c8 tm v with _|vu;simp[hm,hk,hv]at h;simp only[hm,hk,hv]at h;obtain⟨va,a1,a2⟩:=j8 ht hm;obtain⟨vb,b1,b2⟩:=j8 ht hk;obtain⟨vc,c1,c2⟩:=j8 ht hv;obtain⟨w,y,h1,h2,h3,h4⟩:=qv3 hx h a2 b2 c2;exact fin rfl rfl (by simp only[u6,a1,b1,c1,h1]) h2 h3 h4
 |mapEntry t m k=>simp only at h;rcases hm:c8 tm m with _|mu;simp[hm]at h;rcases hk:c8 tm k with _|ku;simp[hm,hk]at h;simp only[hm,hk]at h;obtain⟨va,a1,a2⟩:=j8 ht hm;obtain⟨vb,b1,b2⟩:=j8 ht hk;obtain⟨w,y,h1,h2,h3,h4⟩:=z0f hx h a2 b2;exact fin rfl rfl (by simp only[u6,a1,b1,h1]) h2 h3 h4
 |entryStore t m k v=>simp only at h;rcases hm:c8 tm m with _|mu;simp[hm]at h;rcases hk:c8 tm k with _|ku;simp[hm,hk]at h;rcases hv:c8 tm v with _|vu;simp[hm,hk,hv]at h;simp only[hm,hk,hv]at h;obtain⟨va,a1,a2⟩:=j8 ht hm;obtain⟨vb,b1,b2⟩:=j8 ht hk;obtain⟨vc,c1,c2⟩:=j8 ht hv;obtain⟨w,y,h1,h2,h3,h4⟩:=z2n hx h a2 b2 c2;exact fin rfl rfl (by simp only[u6,a1,b1,c1,h1]) h2 h3 h4
 |call c=>
  simp only at h;obtain⟨callee,args,ats⟩:=c;cases callee with
  |builtin b=>
   have two:∀{us:List U}{a b:U},mB tm args.toList=some us->us=[a,b]->∃va vb,kM tv args.toList=some [va,vb]/\aD x a va/\aD x b vb:=fun{us a b} h1 h2=>by subst h2;obtain⟨vs,a1,a2⟩:=OW ht h1;obtain⟨va,vG,rfl,r1,r2⟩:=a2.inv;obtain⟨vb,vs'',rfl,r3,r4⟩:=r2.inv;rw[r4.nil_inv]at a1;exact⟨va,vb,a1,r1,r3⟩
   cases b with
   |append=>simp only at h;split at h;rename_i a b t xt h1 h2;obtain⟨va,vb,e1,r1,r2⟩:=two h1 rfl;obtain⟨w,y,q1,q2,q3,q4⟩:=qwc hx h r1 r2;exact fin (by simp only[iV]) (by simp only[nR]) (by simp only[u6,e1,h2,q1]) q2 q3 q4;cases h
   |copy=>simp only at h;split at h;rename_i a b t ts h1 h2;obtain⟨va,vb,e1,r1,r2⟩:=two h1 rfl;obtain⟨w,y,q1,q2,q3,q4⟩:=z71 hx h r1 r2;exact fin (by simp only[iV]) (by simp only[nR]) (by simp only[u6,e1,h2,q1]) q2 q3 q4;cases h
   |delete=>simp only at h;split at h;rename_i a b t ts h1 h2;obtain⟨va,vb,e1,r1,r2⟩:=two h1 rfl;obtain⟨w,y,q1,q2,q3,q4⟩:=zat hx h r1 r2;exact fin (by simp only[iV]) (by simp only[nR]) (by simp only[u6,e1,h2,q1]) q2 q3 q4;cases h
   |clear=>simp only at h;split at h;rename_i a t ts h1 h2;obtain⟨vs,a1,a2⟩:=OW ht h1;obtain⟨va,vG,rfl,r1,r2⟩:=a2.inv;rw[r2.nil_inv]at a1;obtain⟨w,y,q1,q2,q3,q4⟩:=z2h hx h r1;exact fin (by simp only[iV]) (by simp only[nR]) (by simp only[u6,a1,h2,q1]) q2 q3 q4;cases h
   |_=>simp at h
  |_=>simp at h
 |_=>simp at h
theorem ZS{tm:List U}{tv:List Value}(ht:bF x tm tv){op:Op}{u:U}(h:bM T x.X tm op=some (u,X')):sC T x tv op u X':=by
 unfold bM at h;cases h1:gG T x.X tm op with
 |some v=>simp only[h1,zA,zB]at h;obtain⟨rfl,rfl⟩:=h;exact z85 hx ht h1
 |none=>simp only[h1]at h;rcases h2:nC T x.X tm op with _|v;simp only[h2]at h;exact zau hx ht h;simp only[h2,zA,zB]at h;obtain⟨rfl,rfl⟩:=h;exact qz6 hx ht h2
omit hx in
theorem qxt{tm:List U}{tv:List Value}(ht:bF x tm tv){op:Op}{f:FuncId}{args:List U}(h:k8 T tm op=some (f,args)):∃vs,callOf T tv op=some (f,vs)/\bF x args vs:=by
 unfold k8 at h;cases op with
 |call c=>
  simp only at h;obtain⟨callee,a7,ats⟩:=c;cases callee with
  |value o=>
   simp only at h;rcases ho:c8 tm o with _|a;simp[ho]at h;obtain⟨va,a1,a2⟩:=j8 ht ho;cases a with
   |fn fn first cap=>
    cases fn with
    |func g=>simp only[ho]at h;simp only[aD]at a2;obtain⟨p,q,rfl,r1,r2,r3,r4⟩:=a2;rcases hg:T.fn g with _|fd;simp[hg]at h;simp only[hg]at h;rcases gO:fd.body.isSome with _|_;simp[gO]at h;simp only[gO,zC]at h;rcases hl:mB tm a7.toList with _|us;simp[hl]at h;simp only[hl,zA,zB]at h;obtain⟨rfl,rfl⟩:=h;obtain⟨vs,e1,e2⟩:=OW ht hl;exact⟨p++vs++q,by simp only[callOf,a1,hg,gO,zC,e1],((show bF x first p from⟨r1,r2⟩).append e2).append ⟨r3,r4⟩⟩
    |_=>simp[ho]at h
   |_=>simp[ho]at h
  |_=>simp at h
 |_=>simp at h
end
end Go.Vx
