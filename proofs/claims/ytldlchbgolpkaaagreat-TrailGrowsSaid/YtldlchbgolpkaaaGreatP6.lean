import Derived.Test.YtldlchbgolpkaaaGreatP5
set_option linter.all false
namespace Go.Vx
open Go Go.Rx
variable{n:Nat}
def Pk{b:Nat}(h1:n*b<=140737488355328)(h2:n<=140737488355328):y9 n b=true:=by simp[y9,Nat.ble_eq_true_of_le h1,Nat.ble_eq_true_of_le h2]
variable{e:X}
def t_{s:S}{i off:Nat}{l:I M}{md:Nat}(hl:lk s.h i=some (.inl (l,e,md)))(h:off+n<=l.length):pS s (some ⟨i,off,none⟩) n=some ((l.drop off).take n):=by cases n with|zero=>simp[pS]|succ n=>simp[pS,hl];exact v03 h
def qp7(s:S)(b:V Addr):pS s b 0=some []:=rfl
section
variable{T:Tb}{x:Cx}(hx:kM x)
include hx
variable{sz:Nat}
variable{k:Nat}
variable{new:I U}
def xq(dS:0<sz){u:U}{v:M}(h:wE x.O sz u=some (k,new))(hr:aD x u v):∃b c vs,yF v=.slice b k c/\(v=.slice b k c\/k=0/\b=none/\c=0/\new=[]/\∃r,v=.chan (some r))/\pS x.s b (k*sz)=some vs/\bF x new vs/\okL new=true:=by
 unfold wE at h;cases u with
 |nils=>simp only[zA,zB]at h;obtain⟨rfl,rfl⟩:=h;simp only[aD]at hr;subst hr;exact⟨none,0,[],rfl,.inl rfl,by rw[Nat.zero_mul];rfl,bF.nil x,rfl⟩
 |isl t l=>simp only at h;split at h;rename_i cR;simp[zA,zB]at h;obtain⟨rfl,rfl⟩:=h;simp only[aD]at hr;rcases hr with⟨rfl,rfl |⟨r,rfl⟩⟩|⟨i,off,c,rfl,_,dA⟩;exact⟨none,0,[],rfl,.inl rfl,by rw[zS,Nat.zero_mul];rfl,bF.nil x,rfl⟩;exact⟨none,0,[],rfl,.inr ⟨rfl,rfl,rfl,rfl,r,rfl⟩,by rw[zS,Nat.zero_mul];rfl,bF.nil x,rfl⟩;by_cases d5:l=[];subst d5;exact⟨_,c,[],rfl,.inl rfl,by rw[zS,Nat.zero_mul];rfl,bF.nil x,rfl⟩;rcases dA with dA |⟨row,e,j7,g1,g2,g3⟩;exact absurd dA d5;have:=z5o g2 d5 cR;subst this;obtain⟨f1,f2⟩:=qwl g2;have bA:=jm g2;rw[List.length_drop]at bA;have:0<l.length*j7:=Nat.mul_pos (by cases l<;>simp_all) dS;exact⟨_,c,_,rfl,.inl rfl,t_ g1 (by omega),f1,f2⟩;cases h
 |sl k' off n c=>simp only at h;rcases dA:rowOf x.O k' with _|l;simp[dA]at h;simp[dA]at h;rcases hs:lB l off (n*sz)with _|cs;simp[hs]at h;simp[hs,zA,zB]at h;have⟨rfl,rfl⟩:=h;have⟨e,hg,hl⟩:=m_ dA;obtain⟨i,hi,rfl,_⟩:=OP hl hr;obtain⟨_,k1,i',lv,e1,e2,e3⟩:=hx.ok k' _ hg;rw[hi]at e1;cases e1;obtain⟨s1,s2⟩:=z5y hs e3;obtain⟨q1,rfl⟩:=SS hs;exact⟨_,c,_,rfl,.inl rfl,t_ e2 (by rw[<-e3.2];exact q1),Ox s2,by rw[Fx];exact OR (H8 k1 _) _⟩
 |vl k' st off n=>simp only at h;rcases hv:wG x.O k' st with _|q;simp[hv]at h;have⟨l,e,j7⟩:=q;have⟨hg,hl⟩:=kq hv;simp[hv,beq_eq]at h;by_cases hz:j7=sz;subst hz;simp[yC,zC]at h;rcases hs:lB l (off*j7) (n*j7)with _|cs;simp[hs]at h;simp[hs,zA,zB]at h;have⟨rfl,rfl⟩:=h;obtain⟨q1,rfl⟩:=SS hs;by_cases hn:n=0;subst hn;obtain⟨_,_,_,_,uO⟩:=YL hl hr;obtain⟨b,c,rfl⟩:=H' uO;exact⟨b,c,[],rfl,.inl rfl,by rw[Nat.zero_mul];rfl,by simpa using bF.nil x,by simp[okL]⟩;obtain⟨i,l0,e0,Nx,l',h1,h2,rfl,h4,h5,h6,h7⟩:=it hx hl hr (by omega);have:=hg.symm.trans h1;cases this;have⟨s1,s2⟩:=z5y hs h5;exact⟨_,_,_,rfl,.inl rfl,t_ h4 (by rw[<-h5.2];exact q1),s2,OR (H8 h7 _) _⟩;simp[hz]at h
 |_=>simp at h
omit hx in
def kx{l:I U}{e:X}{sz N:Nat}{c:lU}:aD ⟨mL x.Y x.O.nx (some x.s.nx),newU x.O (.vec l e sz 0),⟨(x.s.nx,c)::x.s.h,x.s.nx+1⟩⟩ (.vl x.O.nx 0 0 N) (.slice (some ⟨x.s.nx,0,none⟩) N bY):=by simp only[aD];refine⟨rfl,by simp[newU],fun b hb=>?_⟩;simp only[newU,eA,if_true,zA]at hb;subst hb;exact⟨zF _,fun _=>⟨l,e,sz,rfl,by simp[mL,LW]⟩⟩
omit hx in
def w_{e:X}{sz:Nat}{o:V Addr}(ho:∀a,o=some a->a.spot=none):aD ⟨mL x.Y x.O.nx none,newU x.O (.vec [] e sz 0),x.s⟩ (.vl x.O.nx 0 0 0) (.slice o 0 0):=by simp only[aD];refine⟨rfl,by simp[newU],fun b hb=>?_⟩;simp only[newU,eA,if_true,zA]at hb;subst hb;exact⟨zF _,fun _=>⟨[],e,sz,rfl,by simpa[mL,LW]using ho⟩⟩
variable{t:X}
variable{xt:X}
def qp1{e2:X}{by_:Nat}{z:M}(hd:T.und t=some (.slice e))(dL:T.und xt=some (.slice e2))(hi:T.inf e=some (sz+1,by_,z))(hz:Nat.beq z.cells.toList.length (sz+1)=true)
  {o:V Addr} (ho:∀a,o=some a->a.spot=none) {b:V Addr} {c:Nat} {vs:I M} (hc:pS x.s b (k*(sz+1))=some vs) (hr:bF x new vs) (hk:okL new=true) (bA:new.length=k*(sz+1)) (bN:k*by_<=140737488355328/\k<=140737488355328):
  ∃v y,vO T x.s t xt (.slice o 0 0) (.slice b k c)=some (v,y.s)/\y.O=newU x.O (.vec new e (sz+1) 0)/\aD y (.vl x.O.nx 0 0 k) v/\Out x y:=by cases k with|zero=>have:new=[]:=List.eq_nil_of_length_eq_zero (by rw[bA];simp);subst this;rw[hr.nil_inv]at hc;refine⟨.slice o 0 0,⟨mL x.Y x.O.nx none,newU x.O (.vec [] e (sz+1) 0),x.s⟩,?_,rfl,w_ ho,kc hx e (sz+1) (by omega)⟩;simp only[vO,AZ,yF,zD,xM,hd,dL,hi,hc,tD,zC,G4];rfl|succ k=>refine⟨.slice (some ⟨x.s.nx,0,none⟩) (k+1) bY,_,?_,rfl,kx,vf hx hr hk e (by omega)⟩;simp only[vO,AZ,yF,zD,xM,hd,dL,hi,hc,SX hr hk,zC,Y2,G4,show Nat.ble (k+1) 0=false from rfl,zD,Nat.zero_mul,qp7,hz,Nat.zero_add,Pk bN.1 bN.2,List.nil_append,Rx.newRow]
def C_{e2:X}{by_:Nat}{z:M}(hd:T.und t=some (.slice e))(dL:T.und xt=some (.slice e2))(hi:T.inf e=some (sz+1,by_,z))(hz:Nat.beq z.cells.toList.length (sz+1)=true)
  {o:V Addr} {cp:Nat} {old:I U} {ov:I M} (Xm:cp<bY) (lJ:pS x.s o (n*(sz+1))=some ov) (hor:bF x old ov) (HF:okL old=true) {b:V Addr} {c:Nat} {vs:I M} (hc:pS x.s b (k*(sz+1))=some vs) (hr:bF x new vs) (hk:okL new=true) (Q5:0<k) (DN:cp<n+k) (bN:(n+k)*by_<=140737488355328/\n+k<=140737488355328):
  ∃v y,vO T x.s t xt (.slice o n cp) (.slice b k c)=some (v,y.s)/\y.O=newU x.O (.vec (old++new) e (sz+1) 0)/\aD y (.vl x.O.nx 0 0 (n+k)) v/\Out x y/\∃b n c,v=.slice (some b) n c:=by
 cases k with
 |zero=>omega|succ k=>
  refine⟨.slice (some ⟨x.s.nx,0,none⟩) (n+(k+1)) bY,_,?_,rfl,kx,vf hx (hor.append hr) (JE HF hk) e (by omega),_,_,_,rfl⟩;have h1:Nat.ble (n+(k+1)) cp=false:=by rcases h:Nat.ble (n+(k+1)) cp with _|_;rfl;have:=zY h;omega
  simp only[vO,AZ,yF,zD,xM,hd,dL,hi,hc,SX hr hk,zC,Y2,pF Xm,h1,zD,lJ,hz,Pk bN.1 bN.2,Rx.newRow]
def Gz{K:Nat}{l l1:I U}{st:Nat}(hg:gt x.O.h K=some (.vec l e sz st))(o:V Nat)(s':S)(oM:∀i b,lk x.s.h i=some b->x.Y K≠some i->lk s'.h i=some b)(tP:∀i,o=some i->x.Y K=some i\/x.s.nx<=i)
  (gX:∀i b,lk s'.h i=some b->i<s'.nx) (hk:okL l1=true) (hB:∀y:Cx,y.s=s'->Mo x.O.nx x y->l1=[]/\o=none\/∃i l',o=some i/\lk s'.h i=some (.inl (l',e,sz+2))/\bF y l1 l'):
  Out x ⟨mL x.Y K o,⟨ug x.O.h K (.vec l1 e sz (st+1)),x.O.nx⟩,s'⟩:=by have dS:0<sz:=(hx.ok K _ hg).2.2.1;refine step1 hx K (.vec l1 e sz (st+1)) (zF _) (hx.ok K _ hg).1 (fun k hk=>⟨by simp[BN,Ne.symm hk],fk _ _ hk⟩) (by simp[BN,hg]) (.inl ⟨_,hg,Nat.le_succ _,fun h=>by simp[B.st]at h⟩) (fun i b hb d5=>oM i b hb (d5 _ hg)) (fun i hi=>?_) gX (fun hm=>⟨hk,dS,?_⟩);change mL _ _ _ _=some i at hi;rw[re]at hi;rcases tP i hi with h |h;exact .inl ⟨_,hg,h⟩;exact .inr h;rcases hB _ rfl hm with⟨h1,h2⟩|⟨i,l',h1,h2,h3⟩;exact .inl ⟨h1,by simp[mL,h2]⟩;exact .inr ⟨i,l',by simp[mL,h1],h2,h3⟩
omit hx in
def Gs{K:Nat}{l l1:I U}{e:X}{sz st N:Nat}(hx:kM x)(hg:gt x.O.h K=some (.vec l e sz st)){o:V Nat}{s':S}{v:M}(h1:v.oneCell'=true)(h:LW 0 N v sz o):
  aD ⟨mL x.Y K o,⟨ug x.O.h K (.vec l1 e sz (st+1)),x.O.nx⟩,s'⟩ (.vl K (st+1) 0 N) v:=by simp[aD];refine⟨h1,(hx.ok K _ hg).1,fun b hb=>?_⟩;simp[BN,if_true,hg,zM,zA]at hb;subst hb;exact⟨zF _,fun _=>⟨l1,e,sz,rfl,by simpa[mL]using h⟩⟩
omit hx in
def z67{sz:Nat}{u:U}{k:Nat}{new:I U}(h:wE x.O sz u=some (k,new)):new.length=k*sz:=by
 unfold wE at h;cases u with
 |nils=>simp only[zA,zB]at h;obtain⟨rfl,rfl⟩:=h;simp
 |isl t l=>
  simp only at h;split at h;rename_i cR;simp only[zA,zB]at h;obtain⟨rfl,rfl⟩:=h;have:=z9e cR;clear cR;induction l with
  |nil=>simp|cons c l ih=>have h1:=this c (by simp);have h2:=ih fun d hd=>this d (by simp[hd]);simp only[List.flatten_cons,zU,zO,Nat.succ_mul,h2,h1];omega
  cases h
 |sl k' off n c=>simp only at h;rcases dA:rowOf x.O k' with _|l;simp[dA]at h;simp only[dA]at h;rcases hs:lB l off (n*sz)with _|cs;simp[hs]at h;simp only[hs,zA,zB]at h;obtain⟨rfl,rfl⟩:=h;obtain⟨q1,rfl⟩:=SS hs;rw[xn];simp;omega
 |vl k' st off n=>simp only at h;rcases hv:wG x.O k' st with _|q;simp[hv]at h;obtain⟨l,e,j7⟩:=q;simp only[hv,beq_eq]at h;by_cases hz:j7=sz;simp only[hz,yC,zC]at h;rcases hs:lB l (off*sz) (n*sz)with _|cs;simp[hs]at h;simp only[hs,zA,zB]at h;obtain⟨rfl,rfl⟩:=h;obtain⟨q1,rfl⟩:=SS hs;simp;omega;simp[hz]at h
 |_=>simp at h
def z0i{a b r:U}{va vb:M}{O':Sg}(h:MF T x.O t xt a b=some (r,O'))(ha:aD x a va)(hb:aD x b vb):∃v y,vO T x.s t xt va vb=some (v,y.s)/\y.O=O'/\aD y r v/\Out x y:=by
 unfold MF at h;rcases hd:T.und t with _|d;simp[hd]at h;cases d with
 |slice e=>
  rcases dL:T.und xt with _|d2;simp[hd,dL]at h;cases d2 with
  |slice e2=>
   simp only[hd,dL]at h;rcases hi:T.inf e with _|q;simp[hi]at h;obtain⟨sz,by_,z⟩:=q;cases sz with
   |zero=>simp[hi]at h|succ sz=>
    simp only[hi]at h;rcases hz:Nat.beq z.cells.toList.length (sz+1)with _|_;simp only[hz,zD]at h;cases h;simp only[hz,zC]at h;rcases tI:wE x.O (sz+1) b with _|q;simp[tI]at h;obtain⟨k,new⟩:=q;simp only[tI]at h;have bA:=z67 tI;obtain⟨bb,c,vs,xS,_,hc,hr,hk⟩:=xq hx (by omega) tI hb;have happ:∀va',vO T x.s t xt va' vb=vO T x.s t xt va' (.slice bb k c):=fun va'=>by unfold vO;rw[xS];simp only[yF,AZ,zD]
    rw[happ];cases a with
    |nils=>simp only at h;split at h;rename_i bN;simp only[zA,zB]at h;obtain⟨rfl,rfl⟩:=h;simp only[aD]at ha;subst ha;exact qp1 hx hd dL hi hz (by simp) hc hr hk bA bN;cases h
    |isl tt l=>
     rcases tt with _|_;simp at h;simp only at h;split at h
     ·rename_i bN;obtain⟨r1,r2,r3,r4⟩:=bN;simp only[zA,zB]at h;obtain⟨rfl,rfl⟩:=h;obtain⟨o,c0,ov,_,e1,e2,e3,e4⟩:=xq hx (sz:=sz+1) (by omega) (u:=.isl true l) (k:=l.length) (new:=l.flatten) (by simp only[wE,r4,if_true]) ha;rcases e1 with e1 |⟨el,rfl,rfl,enew,rr,rfl⟩
      case inr=>
       have Wr:l=[]:=List.eq_nil_of_length_eq_zero el;subst Wr;obtain⟨v,y,h1,h2,h3,h4,b1,n1,c1,hv⟩:=C_ (T:=T) hx hd dL hi hz (n:=0) (cp:=0) (o:=none) (old:=[]) (ov:=[]) (by simp[bY]) (by rw[Nat.zero_mul];rfl) (bF.nil x) rfl hc hr hk r3 (by omega) ⟨by simpa using r1,by simpa using r2⟩;have h0:xM T x.s t xt (.slice none 0 0) (.slice bb k c)=some (v,y.s):=by simpa only[vO,AZ,yF,zD]using h1
       refine⟨v,y,?_,by simpa using h2,by simpa using h3,h4⟩;simp only[vO,AZ,yF,zC,zD,h0,hv]
      subst e1;have KN:c0=l.length/\c0<bY:=by simp only[aD]at ha;rcases ha with⟨rfl,h1 |⟨_,h1⟩⟩|⟨i,off,c1,h1,h2,_⟩;cases h1;simp[bY];cases h1;cases h1;exact h2 trivial
      obtain⟨v,y,h1,h2,h3,h4,_⟩:=C_ hx hd dL hi hz KN.2 e2 e3 e4 hc hr hk r3 (by omega) ⟨r1,r2⟩;exact⟨v,y,h1,h2,h3,h4⟩
     cases h
    |sl k' off n cp=>
     simp only at h;rcases dA:rowOf x.O k' with _|l;simp[dA]at h;simp only[dA]at h;rcases hs:lB l off (n*(sz+1))with _|old;simp[hs]at h;simp only[hs]at h;obtain⟨e',hg,hl⟩:=m_ dA;obtain⟨i,jJ,L?,Xm,_⟩:=OP hl ha;split at h;rename_i h0;obtain⟨rfl,rfl⟩:=h0;split at h;rename_i bN;simp only[zA,zB]at h;obtain⟨rfl,rfl⟩:=h;subst L?;exact qp1 hx hd dL hi hz (by simp) hc hr hk bA bN;cases h;split at h;rename_i DN;split at h;rename_i bN;obtain⟨r1,r2,r3⟩:=bN;simp only[zA,zB]at h;obtain⟨rfl,rfl⟩:=h;obtain⟨o,c0,ov,_,e1,e2,e3,e4⟩:=xq hx (sz:=sz+1) (by omega) (u:=.sl k' off n cp) (k:=n) (new:=rZ old) (by simp only[wE,dA,hs]) ha;have:o=some ⟨i,off,none⟩/\c0=cp:=by rw[L?]at e1;rcases e1 with e1 |⟨_,_,_,_,_,e1⟩;cases e1;exact⟨rfl,rfl⟩;cases e1
     obtain⟨rfl,rfl⟩:=this;rw[L?];obtain⟨v,y,h1,h2,h3,h4,_⟩:=C_ hx hd dL hi hz Xm e2 e3 e4 hc hr hk r3 DN ⟨r1,r2⟩;exact⟨v,y,h1,h2,h3,h4⟩;cases h;cases h
    |vl K st off n=>
     simp only at h;rcases hg:gt x.O.h K with _|b0;simp[hg]at h;cases b0 with
     |vec l e' j7 cT=>
      simp only[hg,beq_eq]at h;by_cases bZ:cT=st;by_cases he:e'=e;by_cases dS:j7=sz+1;subst bZ;subst he;subst dS;simp only[yC,zC]at h;rcases hs:lB l (off*(sz+1)) (n*(sz+1))with _|p;simp[hs]at h;simp only[hs]at h;split at h;rename_i bN;obtain⟨r1,r2,r3⟩:=bN;simp only[zA,zB]at h;obtain⟨rfl,rfl⟩:=h;obtain⟨l0,e0,Nx,Q8,uO⟩:=YL (x:=x) (by simp[bW,hg,B.st]) ha;have:=hg.symm.trans Q8;cases this;obtain⟨_,k1,k2,h3⟩:=hx.ok K _ hg;obtain⟨q1,rfl⟩:=SS hs;rcases h3 with⟨rfl,kW⟩|⟨i,l',e1,e2,e3⟩;rw[kW]at uO;obtain⟨rfl,rfl,o,rfl,ho⟩:=uO;cases k with
      |zero=>have:new=[]:=List.eq_nil_of_length_eq_zero (by rw[bA];simp);subst this;rw[hr.nil_inv]at hc;refine⟨.slice o 0 0,⟨mL x.Y K none,⟨ug x.O.h K (.vec [] e' (sz+1) (cT+1)),x.O.nx⟩,x.s⟩,?_,by simp,Gs hx hg rfl ⟨rfl,rfl,o,rfl,ho⟩,Gz hx hg none x.s (fun i b hb _=>hb) (by simp) hx.bd rfl (fun y _ _=>.inl ⟨rfl,rfl⟩)⟩;simp only[vO,AZ,yF,zD,xM,hd,dL,hi,hc,tD,zC,G4];rfl|succ k=>
       refine⟨.slice (some ⟨x.s.nx,0,none⟩) (0+(k+1)) bY,⟨mL x.Y K (some x.s.nx),⟨ug x.O.h K (.vec new e' (sz+1) (cT+1)),x.O.nx⟩,Rx.newRow x.s vs e' (sz+1+2)⟩,?_,by simp,Gs hx hg rfl (.inr (by simp)),Gz hx hg (some x.s.nx) _ (fun i b hb _=>?_) (fun i hi=>.inr (by cases hi;exact zF _)) (fun i b hb=>?_) hk (fun y hy hm=>.inr ⟨x.s.nx,vs,rfl,?_,hm.ke.E hr.bel hr⟩)⟩;have h1:Nat.ble (0+(k+1)) 0=false:=by rcases h:Nat.ble (0+(k+1)) 0 with _|_;rfl;have:=zY h;omega
       simp only[vO,AZ,yF,zD,xM,hd,dL,hi,hc,SX hr hk,zC,Y2,G4,h1,zD,Nat.zero_mul,qp7,hz,Pk r1 r2,List.nil_append];have:=hx.bd i b hb;simp[Rx.newRow,mZ,show x.s.nx≠i by omega,hb];simp only[Rx.newRow,mZ]at hb ⊢;split at hb;omega;exact Nat.lt_succ_of_lt (hx.bd i b hb);simp[Rx.newRow,mZ]
      rw[e1]at uO;rcases uO with⟨h0,rfl,_⟩|rfl;omega;have yS:cW x.s i=some (l',e',sz+1+2):=by simp[cW,e2]
      have hcc:Nat.blt (bY+off) bY=false:=H6 (by omega);have B6:bR (bY+off)=off:=by simp[bR]
      have Wd:xA l' (off*(sz+1)) (n*(sz+1))=some ((l'.drop (off*(sz+1))).take (n*(sz+1))):=v03 (by rw[<-e3.2];exact q1);have eQ:Nat.beq (off*(sz+1)) (off*(sz+1))=true:=by simp
      cases k with
      |zero=>
       have:new=[]:=List.eq_nil_of_length_eq_zero (by rw[bA];simp);subst this;rw[hr.nil_inv]at hc;have h0:off=0/\n*(sz+1)=l.length:=by omega
       obtain⟨rfl,DN⟩:=h0;have hp:(l.drop (0*(sz+1))).take (n*(sz+1))++[]=l:=by simp[DN]
       rw[hp];refine⟨.slice (some ⟨i,0*(sz+1),none⟩) n (bY+0),⟨mL x.Y K (some i),⟨ug x.O.h K (.vec l e' (sz+1) (cT+1)),x.O.nx⟩,x.s⟩,?_,by simp,Gs hx hg rfl (.inr rfl),Gz hx hg (some i) x.s (fun i b hb _=>hb) (fun j hj=>.inl (by cases hj;exact e1)) hx.bd k1 (fun y _ hm=>.inr ⟨i,l',rfl,e2,hm.ke.E e3.bel e3⟩)⟩;simp only[vO,AZ,yF,zD,xM,hd,dL,hi,hc,tD,zC,hcc,zD,yS,Nat.beq_refl,B6,Wd]
      |succ k=>have tK:bF x ((l.drop (off*(sz+1))).take (n*(sz+1))++new) ((l'.drop (off*(sz+1))).take (n*(sz+1))++vs):=((e3.drop _).take _).append hr;have hpk:=JE (OR (H8 k1 (off*(sz+1))) (n*(sz+1))) hk;refine⟨.slice (some ⟨x.s.nx,0,none⟩) (n+(k+1)) bY,⟨mL x.Y K (some x.s.nx),⟨ug x.O.h K (.vec ((l.drop (off*(sz+1))).take (n*(sz+1))++new) e' (sz+1) (cT+1)),x.O.nx⟩,⟨(x.s.nx,.inl ((l'.drop (off*(sz+1))).take (n*(sz+1))++vs,e',sz+1+2))::rm x.s.h i,x.s.nx+1⟩⟩,?_,rfl,Gs hx hg rfl (.inr (by simp)),Gz hx hg (some x.s.nx) _ (fun j b hb d5=>?_) (fun i hi=>.inr (by cases hi;exact zF _)) (fun j b hb=>?_) hpk (fun y hy hm=>.inr ⟨x.s.nx,_,rfl,?_,hm.ke.E tK.bel tK⟩)⟩;simp only[vO,AZ,yF,zD,xM,hd,dL,hi,hc,SX hr hk,zC,Y2,hcc,zD,yS,Nat.beq_refl,B6,Wd,hz,Pk r1 r2];have:=hx.bd j b hb;have m7:i≠j:=fun h=>d5 (by rw[e1,h]);simp[mZ,zx,show x.s.nx≠j by omega,m7,hb];simp only[mZ,zx]at hb ⊢;split at hb;omega;split at hb;cases hb;exact Nat.lt_succ_of_lt (hx.bd j b hb);simp[mZ]
      cases h;simp[bZ,he,dS]at h;simp[bZ,he]at h;simp[bZ]at h
     |_=>simp[hg]at h
    |_=>simp at h
  |_=>simp[hd,dL]at h
 |_=>simp[hd]at h
end
def zc1(es:I ME)(i:Nat)(f:ME->ME):HZ es i f=es.modify i f:=by induction es generalizing i with|nil=>simp[HZ]|cons e es ih=>cases i<;>simp[HZ,ih]
def z39(es:I ME)(i:Nat):Gj es i=es.eraseIdx i:=by induction es generalizing i with|nil=>simp[Gj]|cons e es ih=>cases i<;>simp[Gj,ih]
variable{x:Cx}
variable{es:I ME}
variable{vs:I MapEntry}
variable{k:U}
variable{v:U}
variable{kv:M}
variable{vv:M}
def uE.snoc(h:uE x es vs)(hk:aD x k kv)(hv:aD x v vv)(b:Nat):uE x (es++[⟨k,v,b⟩]) (vs++[⟨kv,vv,b⟩]):=by
 refine⟨by simp[h.1],fun i e he=>?_⟩;rw[List.getElem?_append]at he ⊢;rw[<-h.1];split at he;rename_i aE;simp[aE,if_true];exact h.2 i e he;rename_i aE;simp[aE,if_false];cases hj:i-es.length with
 |zero=>simp[hj]at he;subst he;exact⟨⟨kv,vv,b⟩,by simp,hk,hv,rfl⟩|succ j=>simp[hj]at he
def uE.mod(h:uE x es vs)(j:Nat)(hv:aD x v vv):uE x (HZ es j fun e=>{ e with val:=v }) (NQ vs j fun e=>{ e with val:=vv }):=by rw[zc1,ic];refine⟨by simp[h.1],fun i e he=>?_⟩;rw[List.getElem?_modify]at he ⊢;rcases hi:es[i]? with _|e0;simp[hi]at he;obtain⟨v0,q1,q2,q3,q4⟩:=h.2 i e0 hi;rw[hi]at he;simp only[Option.map_eq_map,zM,zA]at he;rw[q1];by_cases Kx:j=i;simp only[Kx,if_true]at he ⊢;subst he;exact⟨_,rfl,q2,hv,q4⟩;simp only[Kx,if_false]at he ⊢;subst he;exact⟨_,rfl,q2,q3,q4⟩
def uE.erase(h:uE x es vs)(j:Nat):uE x (Gj es j) (YC vs j):=by rw[z39,qv4];refine⟨by simp[List.length_eraseIdx,h.1],fun i e he=>?_⟩;rw[List.getElem?_eraseIdx]at he ⊢;split at he;rename_i aE;simp[aE,if_true];exact h.2 i e he;rename_i aE;simp[aE,if_false];exact h.2 _ e he
def uE.mono{y:Cx}(hm:Mo x.O.nx x y)(h:uE x es vs):uE y es vs:=⟨h.1,fun j e he=>by
  have⟨v,q1,q2,q3,q4⟩:=h.2 j e he;exact⟨v,q1,hm.ke _ _ (aD.bel _ _ q2) q2,hm.ke _ _ (aD.bel _ _ q3) q3,q4⟩⟩
def qyh{x:Cx}{b:Int}: ∀{es:I ME}{vs:I MapEntry}(i:Nat),uE x es vs->Lw b es i=SI b vs i
  | [], vs, i, h => by have : vs = [] := by have := h.1; simpa using this.symm
                       subst this;rfl
  |e::es,[],i,h=> by have:=h.1;simp at this
  |e::es,v::vs,i,h=> by have⟨v0,q0,q1,q2,q3⟩:=h.2 0 e rfl;simp at q0;subst q0;have h':uE x es vs:=⟨by have:=h.1;simpa using this,fun j d hd=> by simpa using h.2 (j+1) d (by simpa using hd)⟩;simp[Lw,SI,q3,qyh (i+1) h']
section
variable{T:Tb}{x:Cx}(hx:kM x)
include hx
variable{m:U}
variable{mv:M}
def xe{m:U}{r:Nat}{cl:Nat}(hm:aD x (.map r) mv)(hg:gt x.O.h r=some (.map es cl)):∃i es',x.Y r=some i/\mv=.map (some i)/\lk x.s.h i=some (.inr (es',cl))/\uE x es es'/\D6 x.s i=some (es',cl):=by obtain⟨i,hi,rfl⟩:=jr (x:=x) (by simp[bW,hg,B.st]) hm;obtain⟨_,i',es',e1,e2,e3⟩:=hx.ok r _ hg;rw[hi]at e1;cases e1;exact⟨i,es',hi,rfl,e2,e3,by simp[D6,e2]⟩
def YK{r i:Nat}{es1:I ME}{es' Dw:I MapEntry}{cl cl1:Nat}(hg:gt x.O.h r=some (.map es cl))(hi:x.Y r=some i)(hl:lk x.s.h i=some (.inr (es',cl)))(hr:uE x es1 Dw):
  Out x ⟨x.Y,OO x.O r es1 cl1,OH x.s i Dw cl1⟩:=
 Ha hx hg hi hl rfl (by simp) fun y h1 h2 hm=>⟨i,Dw,h1,h2,hr.mono hm⟩
variable{t:X}
variable{r:U}
variable{O':Sg}
def qvu(h:Oh T x.O t m k v=some (r,O'))(hm:aD x m mv)(hk:aD x k kv)(hv:aD x v vv):∃rv y,Y8 T x.s t mv kv vv=some (rv,y.s)/\y.O=O'/\aD y r rv/\Out x y:=by
 unfold Oh at h;rcases hd:T.und t with _|d;simp[hd]at h;cases d with
 |map kt et=>
  cases m with
  |map q=>
   simp[hd]at h;rcases hkv:toV k with _|kv0;simp[hkv]at h;simp[hkv]at h;have e0:=(AP _ _ hkv x kv).1 hk;subst e0;rcases h1:pA T 50 kt kv with _|_;simp[h1]at h;rcases h2:plain kv with _|_;simp[h1,h2]at h;simp[h1,h2,zC]at h;rcases hg:gt x.O.h q with _|b;simp[hg]at h;cases b with
   |map es cl=>simp[hg]at h;obtain⟨i,es',hi,rfl,hl,hr,ho⟩:=xe hx (m:=.map q) hm hg;rcases hf:BO T kt kv es 0 with _|f;simp[hf]at h;rcases Pu 0 hr hf with⟨rfl,f1⟩|⟨j,u,w,rfl,f1,f2,f3,d,d',f4,f5,f6,f7,f8,f9⟩;simp[hf,zA,zB]at h;have⟨rfl,rfl⟩:=h;exact⟨undef,_,by simp[Y8,hd,h1,h2,zC,ho,f1],rfl,by simp[aD],YK hx hg hi hl (hr.snoc hk hv cl)⟩;simp[Nat.sub_zero]at f4 f6;simp[hf,jA,f4]at h;rcases eR:toV d.key with _|kv';simp[eR]at h;simp[eR]at h;have e1:=(AP _ _ eR x d'.key).1 f7;rcases hveq:AF 50 kv' kv with _|_;simp[hveq]at h;simp[hveq,zC,zA,zB]at h;have⟨rfl,rfl⟩:=h;exact⟨undef,_,by simp[Y8,hd,h1,h2,zC,ho,f1,jA,f6,e1,hveq],rfl,by simp[aD],YK hx hg hi hl (hr.mod j hv)⟩
   |_=>simp[hg]at h
  |_=>simp[hd]at h
 |_=>simp[hd]at h
def z0z(h:ie T x.O t m k=some (r,O'))(hm:aD x m mv)(hk:aD x k kv):∃rv y,Gv T x.s t mv kv=some (rv,y.s)/\y.O=O'/\aD y r rv/\Out x y:=by
 unfold ie at h;rcases hd:T.und t with _|d;simp[hd]at h;cases d with
 |map kt et=>
  cases m with
  |map q=>
   simp[hd]at h;rcases hkv:toV k with _|kv0;simp[hkv]at h;simp[hkv]at h;have e0:=(AP _ _ hkv x kv).1 hk;subst e0;rcases h1:pA T 50 kt kv with _|_;simp[h1]at h;rcases h2:plain kv with _|_;simp[h1,h2]at h;simp[h1,h2,zC]at h;rcases hg:gt x.O.h q with _|b;simp[hg]at h;cases b with
   |map es cl=>
    simp only[hg]at h;obtain⟨i,es',hi,rfl,hl,hr,ho⟩:=xe hx (m:=.map q) hm hg;have IG:∀{y:Cx}{p:U}{p':M}{n:Nat},aD y p p'->aD y (.tup [p,.int .i64 n]) (.tuple #[p',.int .i64 n]):=fun{y p p' n} hp=>by simp only[aD];exact⟨[p',.int .i64 n],rfl,by simp[cU,hp,aD],rfl⟩
    rcases hf:BO T kt kv es 0 with _|f;simp[hf]at h;rcases Pu 0 hr hf with⟨rfl,f1⟩|⟨j,u,w,rfl,f1,f2,f3,d,d',f4,f5,f6,f7,f8,f9⟩;simp[hf]at h;rcases hinf:T.inf et with _|z;simp[hinf]at h;have⟨z1,z2,z⟩:=z;simp[hinf]at h;rcases hz:iN z with _|zu;simp[hz]at h;simp[hz,zA,zB]at h;have⟨rfl,rfl⟩:=h;exact⟨.tuple #[z,.int .i64 cl],_,by simp[Gv,hd,h1,h2,zC,ho,f1,hinf],rfl,IG ((OF _ _ hz).2 _),YK hx hg hi hl (hr.snoc hk ((OF _ _ hz).2 x) cl)⟩;simp[Nat.sub_zero]at f4 f6;simp[hf,jA,f4]at h;rcases eR:toV d.key with _|kv';simp[eR]at h;simp[eR]at h;have e1:=(AP _ _ eR x d'.key).1 f7;rcases hveq:AF 50 kv' kv with _|_;simp[hveq]at h;simp[hveq,zC,zA,zB]at h;have⟨rfl,rfl⟩:=h;have kP:=YK hx hg hi hl (cl1:=cl) hr;exact⟨.tuple #[w,.int .i64 d'.born],_,by simp[Gv,hd,h1,h2,zC,ho,f1,jA,f6,e1,hveq],rfl,by rw[f8];exact IG (kP.mo.ke _ _ (aD.bel _ _ f2) f2),kP⟩
   |_=>simp[hg]at h
  |_=>simp[hd]at h
 |_=>simp[hd]at h
def z37{st:U}{sv:M}(h:af x.O m st v=some (r,O'))(hm:aD x m mv)(hs:aD x st sv)(hv:aD x v vv):∃rv y,On x.s mv sv vv=some (rv,y.s)/\y.O=O'/\aD y r rv/\Out x y:=by
 unfold af at h;cases m with
 |map q=>
  cases st with
  |int k b=>
   simp only at h;simp[aD]at hs;subst hs;rcases hg:gt x.O.h q with _|bb;simp[hg]at h;cases bb with
   |map es cl=>simp[hg]at h;obtain⟨i,es',hi,rfl,hl,hr,ho⟩:=xe hx (m:=.map q) hm hg;rcases hb:Lw b es 0 with _|j;simp[hb]at h;simp[hb,zA,zB]at h;have⟨rfl,rfl⟩:=h;rw[qyh 0 hr]at hb;exact⟨undef,_,by simp[On,ho,hb],rfl,by simp[aD],YK hx hg hi hl (hr.mod j hv)⟩
   |_=>simp[hg]at h
  |_=>simp at h
 |_=>simp at h
def zbh(h:Ed T x.O t m k=some (r,O'))(hm:aD x m mv)(hk:aD x k kv):∃rv y,G2 T x.s t mv kv=some (rv,y.s)/\y.O=O'/\aD y r rv/\Out x y:=by
 unfold Ed at h;rcases hd:T.und t with _|d;simp[hd]at h;cases d with
 |map kt et=>
  cases m with
  |map q=>
   simp[hd]at h;rcases hkv:toV k with _|kv0;simp[hkv]at h;simp[hkv]at h;have e0:=(AP _ _ hkv x kv).1 hk;subst e0;rcases h1:pA T 50 kt kv with _|_;simp[h1]at h;simp[h1,zC]at h;rcases hg:gt x.O.h q with _|b;simp[hg]at h;cases b with
   |map es cl=>simp[hg]at h;obtain⟨i,es',hi,rfl,hl,hr,ho⟩:=xe hx (m:=.map q) hm hg;rcases hf:BO T kt kv es 0 with _|f;simp[hf]at h;rcases Pu 0 hr hf with⟨rfl,f1⟩|⟨j,u,w,rfl,f1,_⟩;simp[hf,zA,zB]at h;have⟨rfl,rfl⟩:=h;exact⟨undef,_,by simp[G2,hd,h1,zC,ho,f1],rfl,by simp[aD],YK hx hg hi hl hr⟩;simp[hf,zA,zB]at h;have⟨rfl,rfl⟩:=h;exact⟨undef,_,by simp[G2,hd,h1,zC,ho,f1],rfl,by simp[aD],YK hx hg hi hl (hr.erase j)⟩
   |_=>simp[hg]at h
  |_=>simp[hd]at h
 |_=>simp[hd]at h
def z7i{d s:U}{dv sv:M}(h:F' T x.O t d s=some (r,O'))(bG:aD x d dv)(C7:aD x s sv):∃rv y,Lu T x.s t dv sv=some (rv,y.s)/\y.O=O'/\aD y r rv/\Out x y:=by
 unfold F' at h;rcases hd:T.und t with _|dd;simp[hd]at h;cases dd with
 |slice e=>
  simp only[hd]at h;rcases hs:cO T e with _|sz;simp[hs]at h;simp only[hs]at h;rcases tI:wE x.O sz s with _|q;simp[tI]at h;obtain⟨k,cs⟩:=q;simp only[tI]at h;cases d with
  |sl a off n c=>
   simp only at h;rcases dA:rowOf x.O a with _|l;simp[dA]at h;simp only[dA]at h;split at h;cases h;rename_i f0;have tL:0<n/\0<k/\0<sz:=by omega
   obtain⟨b,c0,vs,_,W?,hc,hr,hk⟩:=xq hx tL.2.2 tI C7;obtain rfl:sv=.slice b k c0:=by rcases W? with W? |⟨h0,_⟩;exact W?;omega
   have bA:=z67 tI;rcases hput:qG l off (cs.take (Nat.min k n*sz))with _|l1;simp[hput]at h;simp only[hput]at h;obtain⟨e',hg,hl⟩:=m_ dA;obtain⟨i,hi,rfl,_⟩:=OP hl bG;obtain⟨_,k1,i',lv,e1,e2,e3⟩:=hx.ok a _ hg;rw[hi]at e1;cases e1;simp[M8,hg,zA,zB]at h;have⟨rfl,rfl⟩:=h;have vW:Nat.min k n*sz<=k*sz:=Nat.mul_le_mul_right _ (Nat.min_le_left _ _);have hmp:0<Nat.min k n*sz:=Nat.mul_pos (by simp[Nat.min_def];split<;>omega) tL.2.2;have iD:pS x.s b (Nat.min k n*sz)=some (vs.take (Nat.min k n*sz)):=by obtain⟨q1,Q2⟩:∃q,k*sz=q+1:=⟨k*sz-1,by have:=Nat.mul_pos tL.2.1 tL.2.2;omega⟩;obtain⟨q2,hq2⟩:∃q,Nat.min k n*sz=q+1:=⟨Nat.min k n*sz-1,by omega⟩;rw[Q2]at hc;rw[hq2];unfold pS at hc ⊢;rcases b with _|a;simp at hc;simp only at hc ⊢;rcases Q4:lk x.s.h a.block with _|bb;simp[Q4]at hc;rcases bb with⟨l0,e0,md0⟩|⟨m0,c1⟩;simp[Q4]at hc ⊢;have⟨s1,s2⟩:=Pi hc;rw[s1,v03 (by omega),List.take_take];congr 2;omega;simp[Q4]at hc
   have hrt:=hr.take (Nat.min k n*sz);have hkt:=OR hk (Nat.min k n*sz);have⟨rv,p1,p2,p3⟩:=xw hput e3 hrt;have yS:cW x.s i=some (lv,e',0):=by simp[cW,e2]
   refine⟨.int .i64 (Nat.min k n),⟨x.Y,⟨ug x.O.h a (.row l1 e'),x.O.nx⟩,⟨up x.s.h i (.inl (rv,e',0)),x.s.nx⟩⟩,?_,rfl,by simp[aD],Ha hx hg hi e2 rfl (by simp) fun y h1 h2 hm=>⟨p3 k1 hkt,i,rv,h1,h2,hm.ke.E p2.bel p2⟩⟩;simp[Lu,hd,hs,iD,SX hrt hkt,zC];cases hv:vs.take (Nat.min k n*sz)with
   |nil=>exfalso;have h1:=hrt.2;rw[hv]at h1;have h2:cs.length=k*sz:=bA;rw[List.length_take,h2,Nat.min_eq_left vW]at h1;simp[zS]at h1;omega|cons v0 Md=>rw[hv]at p1;simp[yS,p1]
  |_=>simp at h
 |_=>simp[hd]at h
def qx4{xt:X}{a b:U}{va vb:M}(h:ol T x.O t xt a b=some (r,O'))(ha:aD x a va)(hb:aD x b vb):∃v y,YN T x.s t xt va vb=some (v,y.s)/\y.O=O'/\aD y r v/\Out x y:=by
 unfold ol at h;split at h;rename_i e kd kd' i hd dL;simp[aD]at ha hb;subst ha;subst hb;split at h;rename_i sz by_ z hi;split at h;rename_i zu hz;split at h;rename_i hc;have⟨c1,c2,c3,c4,c5⟩:=hc;simp[zA,zB]at h;have⟨rfl,rfl⟩:=h;obtain⟨k,hk⟩:∃k,i.toNat=k+1:=⟨i.toNat-1,by omega⟩;have hw:IntKind.i64.wrap i=Int.ofNat (k+1):=by rw[wrap_i64 (by omega) (by omega),<-hk];simp;omega
 have uN:=(ON _ _ hz).2 x;have hO:bF x (vN zu (k+1)) (cC z.cells.toList (k+1)):=Hi uN (k+1);have HF:okL (vN zu (k+1))=true:=ir c5 _;have h1:=SX hO HF;have bN:y9 (k+1) by_=true:=Pk (by rw[<-hk];exact c2) (by rw[<-hk];exact c3);have hb:Nat.beq z.cells.toList.length (sz+1)=true:=by simp[beq_eq,c4]
 rw[hk];refine⟨.slice (some ⟨x.s.nx,0,none⟩) (k+1) bY,_,?_,rfl,kx,vf hx (Ox hO) (by rw[Fx];exact HF) e (by omega)⟩;have hn:vO T x.s t xt (.slice none 0 0) (.int kd' i)=none:=by simp[vO,AZ,yF,xM,hd,dL]
 simp only[YN,hn,jf,hd,dL,hi,hw,bN,hb,h1,zC];rfl;cases h;cases h;cases h;cases h
def qx5{xt:X}{a b:U}{va vb:M}(h:jx T x.O t xt a b=some (r,O'))(ha:aD x a va)(hb:aD x b vb):∃v y,YN T x.s t xt va vb=some (v,y.s)/\y.O=O'/\aD y r v/\Out x y:=by unfold jx at h;split at h;rename_i q hq;cases h;obtain⟨v,y,h1,h2,h3,h4⟩:=z0i hx hq ha hb;exact⟨v,y,by simp only[YN,h1],h2,h3,h4⟩;exact qx4 hx h ha hb
def z2y{d:U}{dv:M}(h:ah T x.O t d=some (r,O'))(bG:aD x d dv):∃rv y,YD T x.s t dv=some (rv,y.s)/\y.O=O'/\aD y r rv/\Out x y:=by
 unfold ah at h;rcases hd:T.und t with _|dd;simp[hd]at h;cases dd with
 |slice e=>
  simp only[hd]at h;rcases hi:T.inf e with _|q;simp[hi]at h;obtain⟨sz,by_,z⟩:=q;simp only[hi]at h;rcases hz:qH z.cells.toList with _|zu;simp[hz]at h;simp only[hz]at h;have uN:=(ON _ _ hz).2 x;rcases HF:okL zu with _|_;simp[HF]at h;rw[HF]at h;rcases bA:Nat.beq z.cells.toList.length sz with _|_;rw[bA]at h;cases h;rw[bA]at h;simp[zC]at h;have xO:zu.length=sz:=by rw[uN.2];simpa[beq_eq]using bA
  have uN:=Ox uN;have xO:(rZ zu).length=sz:=by rw[xn];exact xO
  cases d with
  |nils=>simp[zA,zB]at h;have⟨rfl,rfl⟩:=h;simp[aD]at bG;subst bG;exact⟨undef,x,by simp[YD,hd],rfl,by simp[aD],Out.refl hx⟩
  |vl k st off n=>
   simp only at h;rcases hv:wG x.O k st with _|q;simp[hv]at h;obtain⟨l,e',j7⟩:=q;simp only[hv]at h;rcases hs:Nat.beq j7 sz with _|_;simp[hs]at h;have C7:j7=sz:=by simpa[beq_eq]using hs
   subst C7;simp only[hs,zC]at h;obtain⟨hg,hl⟩:=kq hv;simp only at hg;obtain⟨l2,e2,sz2,NH,br⟩:=YL hl bG;rw[hg]at NH;cases NH;by_cases hn:n=0;simp only[hn,if_true,zA,zB]at h;obtain⟨rfl,rfl⟩:=h;obtain⟨a,c,rfl⟩:=H' br;subst hn;exact⟨undef,x,by simp[YD,hd],rfl,by simp[aD],Out.refl hx⟩;simp[hn,if_false]at h;rcases hp:qG l (off*j7) (vN (rZ zu) n)with _|l1;simp[hp]at h;simp[hp,zA,zB]at h;have⟨rfl,rfl⟩:=h;have⟨_,k1,k2,k3⟩:=hx.ok k _ hg;rcases k3 with⟨rfl,eH⟩|⟨i,lv,US,NG,UR⟩;exfalso;have:=(qw1 hp).1;simp[vN,List.length_flatten,List.map_replicate,List.sum_replicate_nat,xO,zS]at this;have:=Nat.mul_pos (Nat.pos_of_ne_zero hn) k2;omega;rw[US]at br;simp[LW]at br;rcases br with⟨_,h0,_⟩|rfl;exact absurd h0 hn;have⟨rv,p1,p2,p3⟩:=xw hp UR (Hi uN n);obtain⟨n',rfl⟩:∃n',n=n'+1:=⟨n-1,by omega⟩;have hzo:=ir (zu:=rZ zu) (by rw[Fx];exact HF) (n'+1);have h1:=SX (Hi uN (n'+1)) hzo;have yS:cW x.s i=some (lv,e',j7+2):=by simp[cW,NG]
   refine⟨undef,⟨x.Y,⟨ug x.O.h k (.vec l1 e' j7 st),x.O.nx⟩,⟨up x.s.h i (.inl (rv,e',j7+2)),x.s.nx⟩⟩,?_,rfl,by simp[aD],Ha hx hg US NG rfl (by rintro l e sz st h;cases h;exact⟨_,rfl⟩) fun y h1 h2 hm=>⟨p3 k1 hzo,k2,.inr ⟨i,rv,h1,h2,hm.ke.E p2.bel p2⟩⟩⟩;simp[YD,hd,hi,h1,zC,yS,p1]
  |_=>simp at h
 |_=>simp[hd]at h
def zbi{tm:I U}{tv:I M}(ht:bF x tm tv){op:Op}{u:U}(h:nX T x.O tm op=some (u,O')):rR T x tv op u O':=by
 have fin:∀{v:M}{y:Cx},iZ T tv op=none->o3 T tv x.s op=none->uD T tv x.s op=some (v,y.s)->y.O=O'->aD y u v->Out x y->rR T x tv op u O':=fun{v y} h1 h2 h3 h4 h5 h6=>⟨v,y,qzh h1 h2 h3,h4,h5,h6⟩;unfold nX at h;cases op with
 |alloc e=>simp only at h;rcases hi:T.inf e with _|q;simp[hi]at h;have⟨a,b,z⟩:=q;simp[hi]at h;rcases hz:qH z.cells.toList with _|zu;simp[hz]at h;simp[hz]at h;rcases hk:okL zu with _|_;simp[hk]at h;simp[hk,zC,zA,zB]at h;have⟨rfl,rfl⟩:=h;exact fin (v:=.pointer (some ⟨x.s.nx,0,none⟩)) rfl rfl (by simp[uD,hi]) rfl (by simp only[aD];exact⟨rfl,Pb rfl ⟨_,rfl,rfl⟩⟩) (vg hx ((ON _ _ hz).2 x) hk e)
 |box e o=>simp only at h;rcases ho:c9 tm o with _|a;simp[ho]at h;simp[ho]at h;have⟨va,a1,a2⟩:=jH ht ho;rcases hc:xL a with _|cs;simp[hc]at h;simp[hc]at h;have⟨c1,c2⟩:=h_ a2 hc;simp[c2,zC,zA,zB]at h;have⟨rfl,rfl⟩:=h;exact fin (v:=.pointer (some ⟨x.s.nx,0,none⟩)) rfl rfl (by simp[uD,a1]) rfl (by simp only[aD];exact⟨rfl,Pb rfl ⟨_,rfl,rfl⟩⟩) (vg hx c1 c2 e)
 |store t a b=>simp only at h;rcases ha:c9 tm a with _|au;simp[ha]at h;rcases hb:c9 tm b with _|bu;simp[ha,hb]at h;simp[ha,hb]at h;have⟨va,a1,a2⟩:=jH ht ha;have⟨vb,b1,b2⟩:=jH ht hb;have⟨v,y,h1,h2,h3,h4⟩:=z6d hx h a2 b2;exact fin rfl rfl (by simp[uD,a1,b1,h1]) h2 h3 h4
 |buildSlice t n ps=>simp only at h;rcases hp:AN tm ps.toList with _|qs;simp[hp]at h;simp[hp]at h;have⟨vs,h1,h2⟩:=f_ ht hp;have⟨v,y,h3,h4,h5,h6⟩:=qvs hx h h2;exact fin rfl rfl (by simp[uD,h1,h3]) h4 h5 h6
 |makeSlice t a b=>simp only at h;rcases ha:c9 tm a with _|au;simp[ha]at h;rcases hb:c9 tm b with _|bu;simp[ha,hb]at h;simp[ha,hb]at h;have⟨va,a1,a2⟩:=jH ht ha;have⟨vb,b1,b2⟩:=jH ht hb;have⟨v,y,h1,h2,h3,h4⟩:=z88 hx h a2 b2;exact fin rfl rfl (by simp[uD,a1,b1,h1]) h2 h3 h4
 |makeMap t r=>
  cases r with
  |none=>simp[zA,zB]at h;have⟨rfl,rfl⟩:=h;exact fin (v:=.map (some x.s.nx)) rfl rfl (by simp[uD]) rfl (by simp only[aD];exact⟨rfl,Pb rfl ⟨_,rfl,rfl⟩⟩) (iy hx (.map [] 0) (.inr ([],0)) fun y h1 h2 hm=>⟨_,[],h1,h2,rfl,by simp⟩)
  |some r=>simp at h
 |mapUpdate t m k v=>simp only at h;rcases hm:c9 tm m with _|mu;simp[hm]at h;rcases hk:c9 tm k with _|ku;simp[hm,hk]at h;rcases hv:c9 tm v with _|vu;simp[hm,hk,hv]at h;simp[hm,hk,hv]at h;have⟨va,a1,a2⟩:=jH ht hm;have⟨vb,b1,b2⟩:=jH ht hk;have⟨vc,c1,c2⟩:=jH ht hv;obtain⟨w,y,h1,h2,h3,h4⟩:=qvu hx h a2 b2 c2;exact fin rfl rfl (by simp[uD,a1,b1,c1,h1]) h2 h3 h4
 |insert t m k v=>simp only at h;rcases hm:c9 tm m with _|mu;simp[hm]at h;rcases hk:c9 tm k with _|ku;simp[hm,hk]at h;rcases hv:c9 tm v with _|vu;simp[hm,hk,hv]at h;simp[hm,hk,hv]at h;have⟨va,a1,a2⟩:=jH ht hm;have⟨vb,b1,b2⟩:=jH ht hk;have⟨vc,c1,c2⟩:=jH ht hv;obtain⟨w,y,h1,h2,h3,h4⟩:=qvu hx h a2 b2 c2;exact fin rfl rfl (by simp[uD,a1,b1,c1,h1]) h2 h3 h4
 |mapEntry t m k=>simp only at h;rcases hm:c9 tm m with _|mu;simp[hm]at h;rcases hk:c9 tm k with _|ku;simp[hm,hk]at h;simp[hm,hk]at h;have⟨va,a1,a2⟩:=jH ht hm;obtain⟨vb,b1,b2⟩:=jH ht hk;obtain⟨w,y,h1,h2,h3,h4⟩:=z0z hx h a2 b2;exact fin rfl rfl (by simp only[uD,a1,b1,h1]) h2 h3 h4
 |entryStore t m k v=>simp only at h;rcases hm:c9 tm m with _|mu;simp[hm]at h;rcases hk:c9 tm k with _|ku;simp[hm,hk]at h;rcases hv:c9 tm v with _|vu;simp[hm,hk,hv]at h;simp only[hm,hk,hv]at h;obtain⟨va,a1,a2⟩:=jH ht hm;obtain⟨vb,b1,b2⟩:=jH ht hk;obtain⟨vc,c1,c2⟩:=jH ht hv;obtain⟨w,y,h1,h2,h3,h4⟩:=z37 hx h a2 b2 c2;exact fin rfl rfl (by simp only[uD,a1,b1,c1,h1]) h2 h3 h4
 |call c=>
  simp only at h;obtain⟨callee,args,ats⟩:=c;cases callee with
  |builtin b=>
   have two:∀{us:I U}{a b:U},mM tm args.toList=some us->us=[a,b]->∃va vb,kS tv args.toList=some [va,vb]/\aD x a va/\aD x b vb:=fun{us a b} h1 h2=>by subst h2;obtain⟨vs,a1,a2⟩:=OY ht h1;obtain⟨va,vH,rfl,r1,r2⟩:=a2.inv;obtain⟨vb,vs'',rfl,r3,r4⟩:=r2.inv;rw[r4.nil_inv]at a1;exact⟨va,vb,a1,r1,r3⟩
   cases b with
   |append=>simp only at h;split at h;rename_i a b t xt h1 h2;obtain⟨va,vb,e1,r1,r2⟩:=two h1 rfl;obtain⟨w,y,q1,q2,q3,q4⟩:=qx5 hx h r1 r2;exact fin (by simp only[iZ]) (by simp only[o3]) (by simp only[uD,e1,h2,q1]) q2 q3 q4;cases h
   |copy=>simp only at h;split at h;rename_i a b t ts h1 h2;obtain⟨va,vb,e1,r1,r2⟩:=two h1 rfl;obtain⟨w,y,q1,q2,q3,q4⟩:=z7i hx h r1 r2;exact fin (by simp only[iZ]) (by simp only[o3]) (by simp only[uD,e1,h2,q1]) q2 q3 q4;cases h
   |delete=>simp only at h;split at h;rename_i a b t ts h1 h2;obtain⟨va,vb,e1,r1,r2⟩:=two h1 rfl;obtain⟨w,y,q1,q2,q3,q4⟩:=zbh hx h r1 r2;exact fin (by simp only[iZ]) (by simp only[o3]) (by simp only[uD,e1,h2,q1]) q2 q3 q4;cases h
   |clear=>simp only at h;split at h;rename_i a t ts h1 h2;obtain⟨vs,a1,a2⟩:=OY ht h1;obtain⟨va,vH,rfl,r1,r2⟩:=a2.inv;rw[r2.nil_inv]at a1;obtain⟨w,y,q1,q2,q3,q4⟩:=z2y hx h r1;exact fin (by simp only[iZ]) (by simp only[o3]) (by simp only[uD,a1,h2,q1]) q2 q3 q4;cases h
   |_=>simp at h
  |_=>simp at h
 |_=>simp at h
def Ah{tm:I U}{tv:I M}(ht:bF x tm tv){op:Op}{u:U}(h:bM T x.O tm op=some (u,O')):rR T x tv op u O':=by
 unfold bM at h;cases h1:gQ T x.O tm op with
 |some v=>simp[h1,zA,zB]at h;have⟨rfl,rfl⟩:=h;exact z8n hx ht h1
 |none=>simp[h1]at h;rcases h2:nI T x.O tm op with _|v;simp[h2]at h;exact zbi hx ht h;simp[h2,zA,zB]at h;have⟨rfl,rfl⟩:=h;exact qzs hx ht h2
omit hx in
def qyi{tm:I U}{tv:I M}(ht:bF x tm tv){op:Op}{f:FuncId}{args:I U}(h:kH T tm op=some (f,args)):∃vs,callOf T tv op=some (f,vs)/\bF x args vs:=by
 unfold kH at h;cases op with
 |call c=>
  simp only at h;obtain⟨callee,a7,ats⟩:=c;cases callee with
  |value o=>
   simp only at h;rcases ho:c9 tm o with _|a;simp[ho]at h;obtain⟨va,a1,a2⟩:=jH ht ho;cases a with
   |fn fn first cap=>
    cases fn with
    |func g=>simp only[ho]at h;simp only[aD]at a2;obtain⟨p,q,rfl,r1,r2,r3,r4⟩:=a2;rcases hg:T.fn g with _|fd;simp[hg]at h;simp only[hg]at h;rcases gX:fd.body.isSome with _|_;simp[gX]at h;simp only[gX,zC]at h;rcases hl:mM tm a7.toList with _|us;simp[hl]at h;simp only[hl,zA,zB]at h;obtain⟨rfl,rfl⟩:=h;obtain⟨vs,e1,e2⟩:=OY ht hl;exact⟨p++vs++q,by simp only[callOf,a1,hg,gX,zC,e1],((show bF x first p from⟨r1,r2⟩).append e2).append ⟨r3,r4⟩⟩
    |_=>simp[ho]at h
   |_=>simp[ho]at h
  |_=>simp at h
 |_=>simp at h
end
end Go.Vx
