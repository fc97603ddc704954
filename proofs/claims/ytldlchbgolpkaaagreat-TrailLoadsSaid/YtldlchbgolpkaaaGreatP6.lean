import Derived.Test.YtldlchbgolpkaaaGreatP5
set_option linter.all false
namespace Go.Vx
open Go Go.Rx
variable{n:Nat}
def Nn{b:Nat}(h1:n*b<=140737488355328)(h2:n<=140737488355328):yQ n b=true:=by simp[yQ,Nat.ble_eq_true_of_le h1,Nat.ble_eq_true_of_le h2]
variable{e:TypeId}
def nh{s:S}{i off:Nat}{l:V O}{md:Nat}(hl:lk s.h i=some (.inl (l,e,md)))(h:off+n<=l.length):pL s (some ⟨i,off,none⟩) n=some ((l.drop off).take n):=by cases n with|zero=>simp[pL]|succ n=>simp[pL,hl];exact Mi h
def qq6(s:S)(b:M Addr):pL s b 0=some []:=rfl
section
variable{T:Tb}{x:Cx}(hx:jY x)
include hx
variable{sz:Nat}
variable{k:Nat}
variable{new:V U}
def we(dU:0<sz){u:U}{v:O}(h:wV x.X sz u=some (k,new))(hr:aD x u v):∃b c vs,yS v=.slice b k c/\(v=.slice b k c\/k=0/\b=none/\c=0/\new=[]/\∃r,v=.chan (some r))/\pL x.s b (k*sz)=some vs/\bB x new vs/\okL new=true:=by
 unfold wV at h;cases u with
 |nils=>simp only[zA,zB]at h;obtain⟨rfl,rfl⟩:=h;simp only[aD]at hr;subst hr;exact⟨none,0,[],rfl,.inl rfl,by rw[Nat.zero_mul];rfl,bB.nil x,rfl⟩
 |isl t l=>simp only at h;split at h;rename_i cU;simp[zA,zB]at h;obtain⟨rfl,rfl⟩:=h;simp only[aD]at hr;rcases hr with⟨rfl,rfl |⟨r,rfl⟩⟩|⟨i,off,c,rfl,_,dX⟩;exact⟨none,0,[],rfl,.inl rfl,by rw[zS,Nat.zero_mul];rfl,bB.nil x,rfl⟩;exact⟨none,0,[],rfl,.inr ⟨rfl,rfl,rfl,rfl,r,rfl⟩,by rw[zS,Nat.zero_mul];rfl,bB.nil x,rfl⟩;by_cases d5:l=[];subst d5;exact⟨_,c,[],rfl,.inl rfl,by rw[zS,Nat.zero_mul];rfl,bB.nil x,rfl⟩;rcases dX with dX |⟨row,e,j9,g1,g2,g3⟩;exact absurd dX d5;have:=z79 g2 d5 cU;subst this;obtain⟨f1,f2⟩:=qxc g2;have aZ:=xh g2;rw[List.length_drop]at aZ;have:0<l.length*j9:=Nat.mul_pos (by cases l<;>simp_all) dU;exact⟨_,c,_,rfl,.inl rfl,nh g1 (by omega),f1,f2⟩;cases h
 |sl k' off n c=>simp only at h;rcases dX:rowOf x.X k' with _|l;simp[dX]at h;simp[dX]at h;rcases hs:lD l off (n*sz)with _|cs;simp[hs]at h;simp[hs,zA,zB]at h;have⟨rfl,rfl⟩:=h;have⟨e,hg,hl⟩:=ir dX;obtain⟨i,hi,rfl,_⟩:=O3 hl hr;obtain⟨_,k1,i',lv,e1,e2,e3⟩:=hx.ok k' _ hg;rw[hi]at e1;cases e1;obtain⟨s1,s2⟩:=z7j hs e3;obtain⟨q1,rfl⟩:=RY hs;exact⟨_,c,_,rfl,.inl rfl,nh e2 (by rw[<-e3.2];exact q1),Mz s2,by rw[Ew];exact O5 (HB k1 _) _⟩
 |vl k' st off n=>simp only at h;rcases hv:B0 x.X k' st with _|q;simp[hv]at h;have⟨l,e,j9⟩:=q;have⟨hg,hl⟩:=jr hv;simp[hv,beq_eq]at h;by_cases hz:j9=sz;subst hz;simp[yC,zC]at h;rcases hs:lD l (off*j9) (n*j9)with _|cs;simp[hs]at h;simp[hs,zA,zB]at h;have⟨rfl,rfl⟩:=h;obtain⟨q1,rfl⟩:=RY hs;by_cases hn:n=0;subst hn;obtain⟨_,_,_,_,nV⟩:=XV hl hr;obtain⟨b,c,rfl⟩:=bm nV;exact⟨b,c,[],rfl,.inl rfl,by rw[Nat.zero_mul];rfl,by simpa using bB.nil x,by simp[okL]⟩;obtain⟨i,l0,e0,Ly,l',h1,h2,rfl,h4,h5,h6,h7⟩:=ap hx hl hr (by omega);have:=hg.symm.trans h1;cases this;have⟨s1,s2⟩:=z7j hs h5;exact⟨_,_,_,rfl,.inl rfl,nh h4 (by rw[<-h5.2];exact q1),s2,O5 (HB h7 _) _⟩;simp[hz]at h
 |_=>simp at h
omit hx in
def jt{l:V U}{e:TypeId}{sz N:Nat}{c:lP}:aD ⟨mQ x.Y x.X.nx (some x.s.nx),newU x.X (.vec l e sz 0),⟨(x.s.nx,c)::x.s.h,x.s.nx+1⟩⟩ (.vl x.X.nx 0 0 N) (.slice (some ⟨x.s.nx,0,none⟩) N bY):=by simp only[aD];refine⟨rfl,by simp[newU],fun b hb=>?_⟩;simp only[newU,eN,if_true,zA]at hb;subst hb;exact⟨zF _,fun _=>⟨l,e,sz,rfl,by simp[mQ,I5]⟩⟩
omit hx in
def nl{e:TypeId}{sz:Nat}{o:M Addr}(ho:∀a,o=some a->a.spot=none):aD ⟨mQ x.Y x.X.nx none,newU x.X (.vec [] e sz 0),x.s⟩ (.vl x.X.nx 0 0 0) (.slice o 0 0):=by simp only[aD];refine⟨rfl,by simp[newU],fun b hb=>?_⟩;simp only[newU,eN,if_true,zA]at hb;subst hb;exact⟨zF _,fun _=>⟨[],e,sz,rfl,by simpa[mQ,I5]using ho⟩⟩
variable{t:TypeId}
variable{xt:TypeId}
def qpy{e2:TypeId}{by_:Nat}{z:O}(hd:T.und t=some (.slice e))(dI:T.und xt=some (.slice e2))(hi:T.inf e=some (sz+1,by_,z))(hz:Nat.beq z.cells.toList.length (sz+1)=true)
  {o:M Addr} (ho:∀a,o=some a->a.spot=none) {b:M Addr} {c:Nat} {vs:V O} (hc:pL x.s b (k*(sz+1))=some vs) (hr:bB x new vs) (hk:okL new=true) (aZ:new.length=k*(sz+1)) (bM:k*by_<=140737488355328/\k<=140737488355328):
  ∃v y,w5 T x.s t xt (.slice o 0 0) (.slice b k c)=some (v,y.s)/\y.X=newU x.X (.vec new e (sz+1) 0)/\aD y (.vl x.X.nx 0 0 k) v/\Out x y:=by cases k with|zero=>have:new=[]:=List.eq_nil_of_length_eq_zero (by rw[aZ];simp);subst this;rw[hr.nil_inv]at hc;refine⟨.slice o 0 0,⟨mQ x.Y x.X.nx none,newU x.X (.vec [] e (sz+1) 0),x.s⟩,?_,rfl,nl ho,jd hx e (sz+1) (by omega)⟩;simp only[w5,BG,yS,zD,xZ,hd,dI,hi,hc,tI,zC,GE];rfl|succ k=>refine⟨.slice (some ⟨x.s.nx,0,none⟩) (k+1) bY,_,?_,rfl,jt,jy hx hr hk e (by omega)⟩;simp only[w5,BG,yS,zD,xZ,hd,dI,hi,hc,RZ hr hk,zC,X9,GE,show Nat.ble (k+1) 0=false from rfl,zD,Nat.zero_mul,qq6,hz,Nat.zero_add,Nn bM.1 bM.2,List.nil_append,Rx.newRow]
def nz{e2:TypeId}{by_:Nat}{z:O}(hd:T.und t=some (.slice e))(dI:T.und xt=some (.slice e2))(hi:T.inf e=some (sz+1,by_,z))(hz:Nat.beq z.cells.toList.length (sz+1)=true)
  {o:M Addr} {cp:Nat} {old:V U} {ov:V O} (Wa:cp<bY) (lK:pL x.s o (n*(sz+1))=some ov) (hor:bB x old ov) (xJ:okL old=true) {b:M Addr} {c:Nat} {vs:V O} (hc:pL x.s b (k*(sz+1))=some vs) (hr:bB x new vs) (hk:okL new=true) (vE:0<k) (EC:cp<n+k) (bM:(n+k)*by_<=140737488355328/\n+k<=140737488355328):
  ∃v y,w5 T x.s t xt (.slice o n cp) (.slice b k c)=some (v,y.s)/\y.X=newU x.X (.vec (old++new) e (sz+1) 0)/\aD y (.vl x.X.nx 0 0 (n+k)) v/\Out x y/\∃b n c,v=.slice (some b) n c:=by
 cases k with
 |zero=>omega|succ k=>
  refine⟨.slice (some ⟨x.s.nx,0,none⟩) (n+(k+1)) bY,_,?_,rfl,jt,jy hx (hor.append hr) (JB xJ hk) e (by omega),_,_,_,rfl⟩;have h1:Nat.ble (n+(k+1)) cp=false:=by rcases h:Nat.ble (n+(k+1)) cp with _|_;rfl;have:=zY h;omega
  simp only[w5,BG,yS,zD,xZ,hd,dI,hi,hc,RZ hr hk,zC,X9,rG Wa,h1,zD,lK,hz,Nn bM.1 bM.2,Rx.newRow]
def Fy{K:Nat}{l l1:V U}{st:Nat}(hg:gt x.X.h K=some (.vec l e sz st))(o:M Nat)(s':S)(A0:∀i b,lk x.s.h i=some b->x.Y K≠some i->lk s'.h i=some b)(tV:∀i,o=some i->x.Y K=some i\/x.s.nx<=i)
  (gW:∀i b,lk s'.h i=some b->i<s'.nx) (hk:okL l1=true) (hB:∀y:Cx,y.s=s'->Mo x.X.nx x y->l1=[]/\o=none\/∃i l',o=some i/\lk s'.h i=some (.inl (l',e,sz+2))/\bB y l1 l'):
  Out x ⟨mQ x.Y K o,⟨ug x.X.h K (.vec l1 e sz (st+1)),x.X.nx⟩,s'⟩:=by have dU:0<sz:=(hx.ok K _ hg).2.2.1;refine step1 hx K (.vec l1 e sz (st+1)) (zF _) (hx.ok K _ hg).1 (fun k hk=>⟨by simp[R8,Ne.symm hk],F' _ _ hk⟩) (by simp[R8,hg]) (.inl ⟨_,hg,Nat.le_succ _,fun h=>by simp[B.st]at h⟩) (fun i b hb d5=>A0 i b hb (d5 _ hg)) (fun i hi=>?_) gW (fun hm=>⟨hk,dU,?_⟩);change mQ _ _ _ _=some i at hi;rw[fk]at hi;rcases tV i hi with h |h;exact .inl ⟨_,hg,h⟩;exact .inr h;rcases hB _ rfl hm with⟨h1,h2⟩|⟨i,l',h1,h2,h3⟩;exact .inl ⟨h1,by simp[mQ,h2]⟩;exact .inr ⟨i,l',by simp[mQ,h1],h2,h3⟩
omit hx in
def Fo{K:Nat}{l l1:V U}{e:TypeId}{sz st N:Nat}(hx:jY x)(hg:gt x.X.h K=some (.vec l e sz st)){o:M Nat}{s':S}{v:O}(h1:v.oneCell'=true)(h:I5 0 N v sz o):
  aD ⟨mQ x.Y K o,⟨ug x.X.h K (.vec l1 e sz (st+1)),x.X.nx⟩,s'⟩ (.vl K (st+1) 0 N) v:=by simp[aD];refine⟨h1,(hx.ok K _ hg).1,fun b hb=>?_⟩;simp[R8,if_true,hg,zM,zA]at hb;subst hb;exact⟨zF _,fun _=>⟨l1,e,sz,rfl,by simpa[mQ]using h⟩⟩
omit hx in
def z7s{sz:Nat}{u:U}{k:Nat}{new:V U}(h:wV x.X sz u=some (k,new)):new.length=k*sz:=by
 unfold wV at h;cases u with
 |nils=>simp only[zA,zB]at h;obtain⟨rfl,rfl⟩:=h;simp
 |isl t l=>
  simp only at h;split at h;rename_i cU;simp only[zA,zB]at h;obtain⟨rfl,rfl⟩:=h;have:=zb0 cU;clear cU;induction l with
  |nil=>simp|cons c l ih=>have h1:=this c (by simp);have h2:=ih fun d hd=>this d (by simp[hd]);simp only[List.flatten_cons,zU,zO,Nat.succ_mul,h2,h1];omega
  cases h
 |sl k' off n c=>simp only at h;rcases dX:rowOf x.X k' with _|l;simp[dX]at h;simp only[dX]at h;rcases hs:lD l off (n*sz)with _|cs;simp[hs]at h;simp only[hs,zA,zB]at h;obtain⟨rfl,rfl⟩:=h;obtain⟨q1,rfl⟩:=RY hs;rw[wc];simp;omega
 |vl k' st off n=>simp only at h;rcases hv:B0 x.X k' st with _|q;simp[hv]at h;obtain⟨l,e,j9⟩:=q;simp only[hv,beq_eq]at h;by_cases hz:j9=sz;simp only[hz,yC,zC]at h;rcases hs:lD l (off*sz) (n*sz)with _|cs;simp[hs]at h;simp only[hs,zA,zB]at h;obtain⟨rfl,rfl⟩:=h;obtain⟨q1,rfl⟩:=RY hs;simp;omega;simp[hz]at h
 |_=>simp at h
def z2e{a b r:U}{va vb:O}{X':Sg}(h:MD T x.X t xt a b=some (r,X'))(ha:aD x a va)(hb:aD x b vb):∃v y,w5 T x.s t xt va vb=some (v,y.s)/\y.X=X'/\aD y r v/\Out x y:=by
 unfold MD at h;rcases hd:T.und t with _|d;simp[hd]at h;cases d with
 |slice e=>
  rcases dI:T.und xt with _|d2;simp[hd,dI]at h;cases d2 with
  |slice e2=>
   simp only[hd,dI]at h;rcases hi:T.inf e with _|q;simp[hi]at h;obtain⟨sz,by_,z⟩:=q;cases sz with
   |zero=>simp[hi]at h|succ sz=>
    simp only[hi]at h;rcases hz:Nat.beq z.cells.toList.length (sz+1)with _|_;simp only[hz,zD]at h;cases h;simp only[hz,zC]at h;rcases tL:wV x.X (sz+1) b with _|q;simp[tL]at h;obtain⟨k,new⟩:=q;simp only[tL]at h;have aZ:=z7s tL;obtain⟨bb,c,vs,CV,_,hc,hr,hk⟩:=we hx (by omega) tL hb;have happ:∀va',w5 T x.s t xt va' vb=w5 T x.s t xt va' (.slice bb k c):=fun va'=>by unfold w5;rw[CV];simp only[yS,BG,zD]
    rw[happ];cases a with
    |nils=>simp only at h;split at h;rename_i bM;simp only[zA,zB]at h;obtain⟨rfl,rfl⟩:=h;simp only[aD]at ha;subst ha;exact qpy hx hd dI hi hz (by simp) hc hr hk aZ bM;cases h
    |isl tt l=>
     rcases tt with _|_;simp at h;simp only at h;split at h
     ·rename_i bM;obtain⟨r1,r2,r3,r4⟩:=bM;simp only[zA,zB]at h;obtain⟨rfl,rfl⟩:=h;obtain⟨o,c0,ov,_,e1,e2,e3,e4⟩:=we hx (sz:=sz+1) (by omega) (u:=.isl true l) (k:=l.length) (new:=l.flatten) (by simp only[wV,r4,if_true]) ha;rcases e1 with e1 |⟨el,rfl,rfl,enew,rr,rfl⟩
      case inr=>
       have Vb:l=[]:=List.eq_nil_of_length_eq_zero el;subst Vb;obtain⟨v,y,h1,h2,h3,h4,b1,n1,c1,hv⟩:=nz (T:=T) hx hd dI hi hz (n:=0) (cp:=0) (o:=none) (old:=[]) (ov:=[]) (by simp[bY]) (by rw[Nat.zero_mul];rfl) (bB.nil x) rfl hc hr hk r3 (by omega) ⟨by simpa using r1,by simpa using r2⟩;have h0:xZ T x.s t xt (.slice none 0 0) (.slice bb k c)=some (v,y.s):=by simpa only[w5,BG,yS,zD]using h1
       refine⟨v,y,?_,by simpa using h2,by simpa using h3,h4⟩;simp only[w5,BG,yS,zC,zD,h0,hv]
      subst e1;have KF:c0=l.length/\c0<bY:=by simp only[aD]at ha;rcases ha with⟨rfl,h1 |⟨_,h1⟩⟩|⟨i,off,c1,h1,h2,_⟩;cases h1;simp[bY];cases h1;cases h1;exact h2 trivial
      obtain⟨v,y,h1,h2,h3,h4,_⟩:=nz hx hd dI hi hz KF.2 e2 e3 e4 hc hr hk r3 (by omega) ⟨r1,r2⟩;exact⟨v,y,h1,h2,h3,h4⟩
     cases h
    |sl k' off n cp=>
     simp only at h;rcases dX:rowOf x.X k' with _|l;simp[dX]at h;simp only[dX]at h;rcases hs:lD l off (n*(sz+1))with _|old;simp[hs]at h;simp only[hs]at h;obtain⟨e',hg,hl⟩:=ir dX;obtain⟨i,kY,P2,Wa,_⟩:=O3 hl ha;split at h;rename_i h0;obtain⟨rfl,rfl⟩:=h0;split at h;rename_i bM;simp only[zA,zB]at h;obtain⟨rfl,rfl⟩:=h;subst P2;exact qpy hx hd dI hi hz (by simp) hc hr hk aZ bM;cases h;split at h;rename_i EC;split at h;rename_i bM;obtain⟨r1,r2,r3⟩:=bM;simp only[zA,zB]at h;obtain⟨rfl,rfl⟩:=h;obtain⟨o,c0,ov,_,e1,e2,e3,e4⟩:=we hx (sz:=sz+1) (by omega) (u:=.sl k' off n cp) (k:=n) (new:=rY old) (by simp only[wV,dX,hs]) ha;have:o=some ⟨i,off,none⟩/\c0=cp:=by rw[P2]at e1;rcases e1 with e1 |⟨_,_,_,_,_,e1⟩;cases e1;exact⟨rfl,rfl⟩;cases e1
     obtain⟨rfl,rfl⟩:=this;rw[P2];obtain⟨v,y,h1,h2,h3,h4,_⟩:=nz hx hd dI hi hz Wa e2 e3 e4 hc hr hk r3 EC ⟨r1,r2⟩;exact⟨v,y,h1,h2,h3,h4⟩;cases h;cases h
    |vl K st off n=>
     simp only at h;rcases hg:gt x.X.h K with _|b0;simp[hg]at h;cases b0 with
     |vec l e' j9 cD=>
      simp only[hg,beq_eq]at h;by_cases cK:cD=st;by_cases he:e'=e;by_cases dU:j9=sz+1;subst cK;subst he;subst dU;simp only[yC,zC]at h;rcases hs:lD l (off*(sz+1)) (n*(sz+1))with _|p;simp[hs]at h;simp only[hs]at h;split at h;rename_i bM;obtain⟨r1,r2,r3⟩:=bM;simp only[zA,zB]at h;obtain⟨rfl,rfl⟩:=h;obtain⟨l0,e0,Ly,PB,nV⟩:=XV (x:=x) (by simp[cM,hg,B.st]) ha;have:=hg.symm.trans PB;cases this;obtain⟨_,k1,k2,h3⟩:=hx.ok K _ hg;obtain⟨q1,rfl⟩:=RY hs;rcases h3 with⟨rfl,k8⟩|⟨i,l',e1,e2,e3⟩;rw[k8]at nV;obtain⟨rfl,rfl,o,rfl,ho⟩:=nV;cases k with
      |zero=>have:new=[]:=List.eq_nil_of_length_eq_zero (by rw[aZ];simp);subst this;rw[hr.nil_inv]at hc;refine⟨.slice o 0 0,⟨mQ x.Y K none,⟨ug x.X.h K (.vec [] e' (sz+1) (cD+1)),x.X.nx⟩,x.s⟩,?_,by simp,Fo hx hg rfl ⟨rfl,rfl,o,rfl,ho⟩,Fy hx hg none x.s (fun i b hb _=>hb) (by simp) hx.bd rfl (fun y _ _=>.inl ⟨rfl,rfl⟩)⟩;simp only[w5,BG,yS,zD,xZ,hd,dI,hi,hc,tI,zC,GE];rfl|succ k=>
       refine⟨.slice (some ⟨x.s.nx,0,none⟩) (0+(k+1)) bY,⟨mQ x.Y K (some x.s.nx),⟨ug x.X.h K (.vec new e' (sz+1) (cD+1)),x.X.nx⟩,Rx.newRow x.s vs e' (sz+1+2)⟩,?_,by simp,Fo hx hg rfl (.inr (by simp)),Fy hx hg (some x.s.nx) _ (fun i b hb _=>?_) (fun i hi=>.inr (by cases hi;exact zF _)) (fun i b hb=>?_) hk (fun y hy hm=>.inr ⟨x.s.nx,vs,rfl,?_,hm.ke.E hr.bel hr⟩)⟩;have h1:Nat.ble (0+(k+1)) 0=false:=by rcases h:Nat.ble (0+(k+1)) 0 with _|_;rfl;have:=zY h;omega
       simp only[w5,BG,yS,zD,xZ,hd,dI,hi,hc,RZ hr hk,zC,X9,GE,h1,zD,Nat.zero_mul,qq6,hz,Nn r1 r2,List.nil_append];have:=hx.bd i b hb;simp[Rx.newRow,n9,show x.s.nx≠i by omega,hb];simp only[Rx.newRow,n9]at hb ⊢;split at hb;omega;exact Nat.lt_succ_of_lt (hx.bd i b hb);simp[Rx.newRow,n9]
      rw[e1]at nV;rcases nV with⟨h0,rfl,_⟩|rfl;omega;have A3:cY x.s i=some (l',e',sz+1+2):=by simp[cY,e2]
      have hcc:Nat.blt (bY+off) bY=false:=MC (by omega);have BL:bR (bY+off)=off:=by simp[bR]
      have Uk:xS l' (off*(sz+1)) (n*(sz+1))=some ((l'.drop (off*(sz+1))).take (n*(sz+1))):=Mi (by rw[<-e3.2];exact q1);have eL:Nat.beq (off*(sz+1)) (off*(sz+1))=true:=by simp
      cases k with
      |zero=>
       have:new=[]:=List.eq_nil_of_length_eq_zero (by rw[aZ];simp);subst this;rw[hr.nil_inv]at hc;have h0:off=0/\n*(sz+1)=l.length:=by omega
       obtain⟨rfl,EC⟩:=h0;have hp:(l.drop (0*(sz+1))).take (n*(sz+1))++[]=l:=by simp[EC]
       rw[hp];refine⟨.slice (some ⟨i,0*(sz+1),none⟩) n (bY+0),⟨mQ x.Y K (some i),⟨ug x.X.h K (.vec l e' (sz+1) (cD+1)),x.X.nx⟩,x.s⟩,?_,by simp,Fo hx hg rfl (.inr rfl),Fy hx hg (some i) x.s (fun i b hb _=>hb) (fun j hj=>.inl (by cases hj;exact e1)) hx.bd k1 (fun y _ hm=>.inr ⟨i,l',rfl,e2,hm.ke.E e3.bel e3⟩)⟩;simp only[w5,BG,yS,zD,xZ,hd,dI,hi,hc,tI,zC,hcc,zD,A3,Nat.beq_refl,BL,Uk]
      |succ k=>have CN:bB x ((l.drop (off*(sz+1))).take (n*(sz+1))++new) ((l'.drop (off*(sz+1))).take (n*(sz+1))++vs):=((e3.drop _).take _).append hr;have hpk:=JB (O5 (HB k1 (off*(sz+1))) (n*(sz+1))) hk;refine⟨.slice (some ⟨x.s.nx,0,none⟩) (n+(k+1)) bY,⟨mQ x.Y K (some x.s.nx),⟨ug x.X.h K (.vec ((l.drop (off*(sz+1))).take (n*(sz+1))++new) e' (sz+1) (cD+1)),x.X.nx⟩,⟨(x.s.nx,.inl ((l'.drop (off*(sz+1))).take (n*(sz+1))++vs,e',sz+1+2))::rm x.s.h i,x.s.nx+1⟩⟩,?_,rfl,Fo hx hg rfl (.inr (by simp)),Fy hx hg (some x.s.nx) _ (fun j b hb d5=>?_) (fun i hi=>.inr (by cases hi;exact zF _)) (fun j b hb=>?_) hpk (fun y hy hm=>.inr ⟨x.s.nx,_,rfl,?_,hm.ke.E CN.bel CN⟩)⟩;simp only[w5,BG,yS,zD,xZ,hd,dI,hi,hc,RZ hr hk,zC,X9,hcc,zD,A3,Nat.beq_refl,BL,Uk,hz,Nn r1 r2];have:=hx.bd j b hb;have lM:i≠j:=fun h=>d5 (by rw[e1,h]);simp[n9,qk,show x.s.nx≠j by omega,lM,hb];simp only[n9,qk]at hb ⊢;split at hb;omega;split at hb;cases hb;exact Nat.lt_succ_of_lt (hx.bd j b hb);simp[n9]
      cases h;simp[cK,he,dU]at h;simp[cK,he]at h;simp[cK]at h
     |_=>simp[hg]at h
    |_=>simp at h
  |_=>simp[hd,dI]at h
 |_=>simp[hd]at h
end
def zdf(es:V ME)(i:Nat)(f:ME->ME):I1 es i f=es.modify i f:=by induction es generalizing i with|nil=>simp[I1]|cons e es ih=>cases i<;>simp[I1,ih]
def z4v(es:V ME)(i:Nat):Fg es i=es.eraseIdx i:=by induction es generalizing i with|nil=>simp[Fg]|cons e es ih=>cases i<;>simp[Fg,ih]
variable{x:Cx}
variable{es:V ME}
variable{vs:V MapEntry}
variable{k:U}
variable{v:U}
variable{kv:O}
variable{vv:O}
def uE.snoc(h:uE x es vs)(hk:aD x k kv)(hv:aD x v vv)(b:Nat):uE x (es++[⟨k,v,b⟩]) (vs++[⟨kv,vv,b⟩]):=by
 refine⟨by simp[h.1],fun i e he=>?_⟩;rw[List.getElem?_append]at he ⊢;rw[<-h.1];split at he;rename_i aF;simp[aF,if_true];exact h.2 i e he;rename_i aF;simp[aF,if_false];cases hj:i-es.length with
 |zero=>simp[hj]at he;subst he;exact⟨⟨kv,vv,b⟩,by simp,hk,hv,rfl⟩|succ j=>simp[hj]at he
def uE.mod(h:uE x es vs)(j:Nat)(hv:aD x v vv):uE x (I1 es j fun e=>{ e with val:=v }) (N4 vs j fun e=>{ e with val:=vv }):=by rw[zdf,Z'];refine⟨by simp[h.1],fun i e he=>?_⟩;rw[List.getElem?_modify]at he ⊢;rcases hi:es[i]? with _|e0;simp[hi]at he;obtain⟨v0,q1,q2,q3,q4⟩:=h.2 i e0 hi;rw[hi]at he;simp only[Option.map_eq_map,zM,zA]at he;rw[q1];by_cases Jf:j=i;simp only[Jf,if_true]at he ⊢;subst he;exact⟨_,rfl,q2,hv,q4⟩;simp only[Jf,if_false]at he ⊢;subst he;exact⟨_,rfl,q2,q3,q4⟩
def uE.erase(h:uE x es vs)(j:Nat):uE x (Fg es j) (XM vs j):=by rw[z4v,qvs];refine⟨by simp[List.length_eraseIdx,h.1],fun i e he=>?_⟩;rw[List.getElem?_eraseIdx]at he ⊢;split at he;rename_i aF;simp[aF,if_true];exact h.2 i e he;rename_i aF;simp[aF,if_false];exact h.2 _ e he
def uE.mono{y:Cx}(hm:Mo x.X.nx x y)(h:uE x es vs):uE y es vs:=⟨h.1,fun j e he=>by
  have⟨v,q1,q2,q3,q4⟩:=h.2 j e he;exact⟨v,q1,hm.ke _ _ (aD.bel _ _ q2) q2,hm.ke _ _ (aD.bel _ _ q3) q3,q4⟩⟩
def qzl{x:Cx}{b:Int}: ∀{es:V ME}{vs:V MapEntry}(i:Nat),uE x es vs->Kg b es i=RB b vs i
  | [], vs, i, h => by have : vs = [] := by have := h.1; simpa using this.symm
                       subst this;rfl
  |e::es,[],i,h=> by have:=h.1;simp at this
  |e::es,v::vs,i,h=> by have⟨v0,q0,q1,q2,q3⟩:=h.2 0 e rfl;simp at q0;subst q0;have h':uE x es vs:=⟨by have:=h.1;simpa using this,fun j d hd=> by simpa using h.2 (j+1) d (by simpa using hd)⟩;simp[Kg,RB,q3,qzl (i+1) h']
section
variable{T:Tb}{x:Cx}(hx:jY x)
include hx
variable{m:U}
variable{mv:O}
def qw{m:U}{r:Nat}{cl:Nat}(hm:aD x (.map r) mv)(hg:gt x.X.h r=some (.map es cl)):∃i es',x.Y r=some i/\mv=.map (some i)/\lk x.s.h i=some (.inr (es',cl))/\uE x es es'/\DQ x.s i=some (es',cl):=by obtain⟨i,hi,rfl⟩:=xn (x:=x) (by simp[cM,hg,B.st]) hm;obtain⟨_,i',es',e1,e2,e3⟩:=hx.ok r _ hg;rw[hi]at e1;cases e1;exact⟨i,es',hi,rfl,e2,e3,by simp[DQ,e2]⟩
def XU{r i:Nat}{es1:V ME}{es' Cn:V MapEntry}{cl cl1:Nat}(hg:gt x.X.h r=some (.map es cl))(hi:x.Y r=some i)(hl:lk x.s.h i=some (.inr (es',cl)))(hr:uE x es1 Cn):
  Out x ⟨x.Y,O2 x.X r es1 cl1,NU x.s i Cn cl1⟩:=
 XY hx hg hi hl rfl (by simp) fun y h1 h2 hm=>⟨i,Cn,h1,h2,hr.mono hm⟩
variable{t:TypeId}
variable{r:U}
variable{X':Sg}
def qwi(h:Mn T x.X t m k v=some (r,X'))(hm:aD x m mv)(hk:aD x k kv)(hv:aD x v vv):∃rv y,XH T x.s t mv kv vv=some (rv,y.s)/\y.X=X'/\aD y r rv/\Out x y:=by
 unfold Mn at h;rcases hd:T.und t with _|d;simp[hd]at h;cases d with
 |map kt et=>
  cases m with
  |map q=>
   simp[hd]at h;rcases hkv:toV k with _|kv0;simp[hkv]at h;simp[hkv]at h;have e0:=(yV _ _ hkv x kv).1 hk;subst e0;rcases h1:pJ T 50 kt kv with _|_;simp[h1]at h;rcases h2:plain kv with _|_;simp[h1,h2]at h;simp[h1,h2,zC]at h;rcases hg:gt x.X.h q with _|b;simp[hg]at h;cases b with
   |map es cl=>simp[hg]at h;obtain⟨i,es',hi,rfl,hl,hr,ho⟩:=qw hx (m:=.map q) hm hg;rcases hf:C2 T kt kv es 0 with _|f;simp[hf]at h;rcases Ny 0 hr hf with⟨rfl,f1⟩|⟨j,u,w,rfl,f1,f2,f3,d,d',f4,f5,f6,f7,f8,f9⟩;simp[hf,zA,zB]at h;have⟨rfl,rfl⟩:=h;exact⟨undef,_,by simp[XH,hd,h1,h2,zC,ho,f1],rfl,by simp[aD],XU hx hg hi hl (hr.snoc hk hv cl)⟩;simp[Nat.sub_zero]at f4 f6;simp[hf,jD,f4]at h;rcases eC:toV d.key with _|kv';simp[eC]at h;simp[eC]at h;have e1:=(yV _ _ eC x d'.key).1 f7;rcases hveq:AT 50 kv' kv with _|_;simp[hveq]at h;simp[hveq,zC,zA,zB]at h;have⟨rfl,rfl⟩:=h;exact⟨undef,_,by simp[XH,hd,h1,h2,zC,ho,f1,jD,f6,e1,hveq],rfl,by simp[aD],XU hx hg hi hl (hr.mod j hv)⟩
   |_=>simp[hg]at h
  |_=>simp[hd]at h
 |_=>simp[hd]at h
def z2v(h:ab T x.X t m k=some (r,X'))(hm:aD x m mv)(hk:aD x k kv):∃rv y,Ft T x.s t mv kv=some (rv,y.s)/\y.X=X'/\aD y r rv/\Out x y:=by
 unfold ab at h;rcases hd:T.und t with _|d;simp[hd]at h;cases d with
 |map kt et=>
  cases m with
  |map q=>
   simp[hd]at h;rcases hkv:toV k with _|kv0;simp[hkv]at h;simp[hkv]at h;have e0:=(yV _ _ hkv x kv).1 hk;subst e0;rcases h1:pJ T 50 kt kv with _|_;simp[h1]at h;rcases h2:plain kv with _|_;simp[h1,h2]at h;simp[h1,h2,zC]at h;rcases hg:gt x.X.h q with _|b;simp[hg]at h;cases b with
   |map es cl=>
    simp only[hg]at h;obtain⟨i,es',hi,rfl,hl,hr,ho⟩:=qw hx (m:=.map q) hm hg;have IH:∀{y:Cx}{p:U}{p':O}{n:Nat},aD y p p'->aD y (.tup [p,.int .i64 n]) (.tuple #[p',.int .i64 n]):=fun{y p p' n} hp=>by simp only[aD];exact⟨[p',.int .i64 n],rfl,by simp[cO,hp,aD],rfl⟩
    rcases hf:C2 T kt kv es 0 with _|f;simp[hf]at h;rcases Ny 0 hr hf with⟨rfl,f1⟩|⟨j,u,w,rfl,f1,f2,f3,d,d',f4,f5,f6,f7,f8,f9⟩;simp[hf]at h;rcases hinf:T.inf et with _|z;simp[hinf]at h;have⟨z1,z2,z⟩:=z;simp[hinf]at h;rcases hz:iI z with _|zu;simp[hz]at h;simp[hz,zA,zB]at h;have⟨rfl,rfl⟩:=h;exact⟨.tuple #[z,.int .i64 cl],_,by simp[Ft,hd,h1,h2,zC,ho,f1,hinf],rfl,IH ((NT _ _ hz).2 _),XU hx hg hi hl (hr.snoc hk ((NT _ _ hz).2 x) cl)⟩;simp[Nat.sub_zero]at f4 f6;simp[hf,jD,f4]at h;rcases eC:toV d.key with _|kv';simp[eC]at h;simp[eC]at h;have e1:=(yV _ _ eC x d'.key).1 f7;rcases hveq:AT 50 kv' kv with _|_;simp[hveq]at h;simp[hveq,zC,zA,zB]at h;have⟨rfl,rfl⟩:=h;have iZ:=XU hx hg hi hl (cl1:=cl) hr;exact⟨.tuple #[w,.int .i64 d'.born],_,by simp[Ft,hd,h1,h2,zC,ho,f1,jD,f6,e1,hveq],rfl,by rw[f8];exact IH (iZ.mo.ke _ _ (aD.bel _ _ f2) f2),iZ⟩
   |_=>simp[hg]at h
  |_=>simp[hd]at h
 |_=>simp[hd]at h
def z4t{st:U}{sv:O}(h:ct x.X m st v=some (r,X'))(hm:aD x m mv)(hs:aD x st sv)(hv:aD x v vv):∃rv y,Ms x.s mv sv vv=some (rv,y.s)/\y.X=X'/\aD y r rv/\Out x y:=by
 unfold ct at h;cases m with
 |map q=>
  cases st with
  |int k b=>
   simp only at h;simp[aD]at hs;subst hs;rcases hg:gt x.X.h q with _|bb;simp[hg]at h;cases bb with
   |map es cl=>simp[hg]at h;obtain⟨i,es',hi,rfl,hl,hr,ho⟩:=qw hx (m:=.map q) hm hg;rcases hb:Kg b es 0 with _|j;simp[hb]at h;simp[hb,zA,zB]at h;have⟨rfl,rfl⟩:=h;rw[qzl 0 hr]at hb;exact⟨undef,_,by simp[Ms,ho,hb],rfl,by simp[aD],XU hx hg hi hl (hr.mod j hv)⟩
   |_=>simp[hg]at h
  |_=>simp at h
 |_=>simp at h
def zcx(h:Cv T x.X t m k=some (r,X'))(hm:aD x m mv)(hk:aD x k kv):∃rv y,GC T x.s t mv kv=some (rv,y.s)/\y.X=X'/\aD y r rv/\Out x y:=by
 unfold Cv at h;rcases hd:T.und t with _|d;simp[hd]at h;cases d with
 |map kt et=>
  cases m with
  |map q=>
   simp[hd]at h;rcases hkv:toV k with _|kv0;simp[hkv]at h;simp[hkv]at h;have e0:=(yV _ _ hkv x kv).1 hk;subst e0;rcases h1:pJ T 50 kt kv with _|_;simp[h1]at h;simp[h1,zC]at h;rcases hg:gt x.X.h q with _|b;simp[hg]at h;cases b with
   |map es cl=>simp[hg]at h;obtain⟨i,es',hi,rfl,hl,hr,ho⟩:=qw hx (m:=.map q) hm hg;rcases hf:C2 T kt kv es 0 with _|f;simp[hf]at h;rcases Ny 0 hr hf with⟨rfl,f1⟩|⟨j,u,w,rfl,f1,_⟩;simp[hf,zA,zB]at h;have⟨rfl,rfl⟩:=h;exact⟨undef,_,by simp[GC,hd,h1,zC,ho,f1],rfl,by simp[aD],XU hx hg hi hl hr⟩;simp[hf,zA,zB]at h;have⟨rfl,rfl⟩:=h;exact⟨undef,_,by simp[GC,hd,h1,zC,ho,f1],rfl,by simp[aD],XU hx hg hi hl (hr.erase j)⟩
   |_=>simp[hg]at h
  |_=>simp[hd]at h
 |_=>simp[hd]at h
def z98{d s:U}{dv sv:O}(h:bj T x.X t d s=some (r,X'))(bF:aD x d dv)(CJ:aD x s sv):∃rv y,Kd T x.s t dv sv=some (rv,y.s)/\y.X=X'/\aD y r rv/\Out x y:=by
 unfold bj at h;rcases hd:T.und t with _|dd;simp[hd]at h;cases dd with
 |slice e=>
  simp only[hd]at h;rcases hs:cT T e with _|sz;simp[hs]at h;simp only[hs]at h;rcases tL:wV x.X sz s with _|q;simp[tL]at h;obtain⟨k,cs⟩:=q;simp only[tL]at h;cases d with
  |sl a off n c=>
   simp only at h;rcases dX:rowOf x.X a with _|l;simp[dX]at h;simp only[dX]at h;split at h;cases h;rename_i gA;have tP:0<n/\0<k/\0<sz:=by omega
   obtain⟨b,c0,vs,_,hsv,hc,hr,hk⟩:=we hx tP.2.2 tL CJ;obtain rfl:sv=.slice b k c0:=by rcases hsv with hsv |⟨h0,_⟩;exact hsv;omega
   have aZ:=z7s tL;rcases hput:qB l off (cs.take (Nat.min k n*sz))with _|l1;simp[hput]at h;simp only[hput]at h;obtain⟨e',hg,hl⟩:=ir dX;obtain⟨i,hi,rfl,_⟩:=O3 hl bF;obtain⟨_,k1,i',lv,e1,e2,e3⟩:=hx.ok a _ hg;rw[hi]at e1;cases e1;simp[M6,hg,zA,zB]at h;have⟨rfl,rfl⟩:=h;have wE:Nat.min k n*sz<=k*sz:=Nat.mul_le_mul_right _ (Nat.min_le_left _ _);have hmp:0<Nat.min k n*sz:=Nat.mul_pos (by simp[Nat.min_def];split<;>omega) tP.2.2;have iE:pL x.s b (Nat.min k n*sz)=some (vs.take (Nat.min k n*sz)):=by obtain⟨q1,P6⟩:∃q,k*sz=q+1:=⟨k*sz-1,by have:=Nat.mul_pos tP.2.1 tP.2.2;omega⟩;obtain⟨q2,hq2⟩:∃q,Nat.min k n*sz=q+1:=⟨Nat.min k n*sz-1,by omega⟩;rw[P6]at hc;rw[hq2];unfold pL at hc ⊢;rcases b with _|a;simp at hc;simp only at hc ⊢;rcases y5:lk x.s.h a.block with _|bb;simp[y5]at hc;rcases bb with⟨l0,e0,md0⟩|⟨m0,c1⟩;simp[y5]at hc ⊢;have⟨s1,s2⟩:=Nk hc;rw[s1,Mi (by omega),List.take_take];congr 2;omega;simp[y5]at hc
   have hrt:=hr.take (Nat.min k n*sz);have hkt:=O5 hk (Nat.min k n*sz);have⟨rv,p1,p2,p3⟩:=wl hput e3 hrt;have A3:cY x.s i=some (lv,e',0):=by simp[cY,e2]
   refine⟨.int .i64 (Nat.min k n),⟨x.Y,⟨ug x.X.h a (.row l1 e'),x.X.nx⟩,⟨up x.s.h i (.inl (rv,e',0)),x.s.nx⟩⟩,?_,rfl,by simp[aD],XY hx hg hi e2 rfl (by simp) fun y h1 h2 hm=>⟨p3 k1 hkt,i,rv,h1,h2,hm.ke.E p2.bel p2⟩⟩;simp[Kd,hd,hs,iE,RZ hrt hkt,zC];cases hv:vs.take (Nat.min k n*sz)with
   |nil=>exfalso;have h1:=hrt.2;rw[hv]at h1;have h2:cs.length=k*sz:=aZ;rw[List.length_take,h2,Nat.min_eq_left wE]at h1;simp[zS]at h1;omega|cons v0 VV=>rw[hv]at p1;simp[A3,p1]
  |_=>simp at h
 |_=>simp[hd]at h
def qy1{xt:TypeId}{a b:U}{va vb:O}(h:fg T x.X t xt a b=some (r,X'))(ha:aD x a va)(hb:aD x b vb):∃v y,XX T x.s t xt va vb=some (v,y.s)/\y.X=X'/\aD y r v/\Out x y:=by
 unfold fg at h;split at h;rename_i e kd kd' i hd dI;simp[aD]at ha hb;subst ha;subst hb;split at h;rename_i sz by_ z hi;split at h;rename_i zu hz;split at h;rename_i hc;have⟨c1,c2,c3,c4,c5⟩:=hc;simp[zA,zB]at h;have⟨rfl,rfl⟩:=h;obtain⟨k,hk⟩:∃k,i.toNat=k+1:=⟨i.toNat-1,by omega⟩;have hw:IntKind.i64.wrap i=Int.ofNat (k+1):=by rw[wrap_i64 (by omega) (by omega),<-hk];simp;omega
 have uI:=(O1 _ _ hz).2 x;have fU:bB x (w4 zu (k+1)) (cC z.cells.toList (k+1)):=Gf uI (k+1);have xJ:okL (w4 zu (k+1))=true:=ao c5 _;have h1:=RZ fU xJ;have bM:yQ (k+1) by_=true:=Nn (by rw[<-hk];exact c2) (by rw[<-hk];exact c3);have hb:Nat.beq z.cells.toList.length (sz+1)=true:=by simp[beq_eq,c4]
 rw[hk];refine⟨.slice (some ⟨x.s.nx,0,none⟩) (k+1) bY,_,?_,rfl,jt,jy hx (Mz fU) (by rw[Ew];exact xJ) e (by omega)⟩;have hn:w5 T x.s t xt (.slice none 0 0) (.int kd' i)=none:=by simp[w5,BG,yS,xZ,hd,dI]
 simp only[XX,hn,xa,hd,dI,hi,hw,bM,hb,h1,zC];rfl;cases h;cases h;cases h;cases h
def qy2{xt:TypeId}{a b:U}{va vb:O}(h:xy T x.X t xt a b=some (r,X'))(ha:aD x a va)(hb:aD x b vb):∃v y,XX T x.s t xt va vb=some (v,y.s)/\y.X=X'/\aD y r v/\Out x y:=by unfold xy at h;split at h;rename_i q hq;cases h;obtain⟨v,y,h1,h2,h3,h4⟩:=z2e hx hq ha hb;exact⟨v,y,by simp only[XX,h1],h2,h3,h4⟩;exact qy1 hx h ha hb
def z4l{d:U}{dv:O}(h:ee T x.X t d=some (r,X'))(bF:aD x d dv):∃rv y,XO T x.s t dv=some (rv,y.s)/\y.X=X'/\aD y r rv/\Out x y:=by
 unfold ee at h;rcases hd:T.und t with _|dd;simp[hd]at h;cases dd with
 |slice e=>
  simp only[hd]at h;rcases hi:T.inf e with _|q;simp[hi]at h;obtain⟨sz,by_,z⟩:=q;simp only[hi]at h;rcases hz:qC z.cells.toList with _|zu;simp[hz]at h;simp only[hz]at h;have uI:=(O1 _ _ hz).2 x;rcases xJ:okL zu with _|_;simp[xJ]at h;rw[xJ]at h;rcases aZ:Nat.beq z.cells.toList.length sz with _|_;rw[aZ]at h;cases h;rw[aZ]at h;simp[zC]at h;have y3:zu.length=sz:=by rw[uI.2];simpa[beq_eq]using aZ
  have uI:=Mz uI;have y3:(rY zu).length=sz:=by rw[wc];exact y3
  cases d with
  |nils=>simp[zA,zB]at h;have⟨rfl,rfl⟩:=h;simp[aD]at bF;subst bF;exact⟨undef,x,by simp[XO,hd],rfl,by simp[aD],Out.refl hx⟩
  |vl k st off n=>
   simp only at h;rcases hv:B0 x.X k st with _|q;simp[hv]at h;obtain⟨l,e',j9⟩:=q;simp only[hv]at h;rcases hs:Nat.beq j9 sz with _|_;simp[hs]at h;have CJ:j9=sz:=by simpa[beq_eq]using hs
   subst CJ;simp only[hs,zC]at h;obtain⟨hg,hl⟩:=jr hv;simp only at hg;obtain⟨l2,e2,sz2,G1,pa⟩:=XV hl bF;rw[hg]at G1;cases G1;by_cases hn:n=0;simp only[hn,if_true,zA,zB]at h;obtain⟨rfl,rfl⟩:=h;obtain⟨a,c,rfl⟩:=bm pa;subst hn;exact⟨undef,x,by simp[XO,hd],rfl,by simp[aD],Out.refl hx⟩;simp[hn,if_false]at h;rcases hp:qB l (off*j9) (w4 (rY zu) n)with _|l1;simp[hp]at h;simp[hp,zA,zB]at h;have⟨rfl,rfl⟩:=h;have⟨_,k1,k2,k3⟩:=hx.ok k _ hg;rcases k3 with⟨rfl,fD⟩|⟨i,lv,TV,Vl,TU⟩;exfalso;have:=(qws hp).1;simp[w4,List.length_flatten,List.map_replicate,List.sum_replicate_nat,y3,zS]at this;have:=Nat.mul_pos (Nat.pos_of_ne_zero hn) k2;omega;rw[TV]at pa;simp[I5]at pa;rcases pa with⟨_,h0,_⟩|rfl;exact absurd h0 hn;have⟨rv,p1,p2,p3⟩:=wl hp TU (Gf uI n);obtain⟨n',rfl⟩:∃n',n=n'+1:=⟨n-1,by omega⟩;have hzo:=ao (zu:=rY zu) (by rw[Ew];exact xJ) (n'+1);have h1:=RZ (Gf uI (n'+1)) hzo;have A3:cY x.s i=some (lv,e',j9+2):=by simp[cY,Vl]
   refine⟨undef,⟨x.Y,⟨ug x.X.h k (.vec l1 e' j9 st),x.X.nx⟩,⟨up x.s.h i (.inl (rv,e',j9+2)),x.s.nx⟩⟩,?_,rfl,by simp[aD],XY hx hg TV Vl rfl (by rintro l e sz st h;cases h;exact⟨_,rfl⟩) fun y h1 h2 hm=>⟨p3 k1 hzo,k2,.inr ⟨i,rv,h1,h2,hm.ke.E p2.bel p2⟩⟩⟩;simp[XO,hd,hi,h1,zC,A3,p1]
  |_=>simp at h
 |_=>simp[hd]at h
def zcy{tm:V U}{tv:V O}(ht:bB x tm tv){op:Op}{u:U}(h:oY T x.X tm op=some (u,X')):rQ T x tv op u X':=by
 have fin:∀{v:O}{y:Cx},j0 T tv op=none->o4 T tv x.s op=none->uD T tv x.s op=some (v,y.s)->y.X=X'->aD y u v->Out x y->rQ T x tv op u X':=fun{v y} h1 h2 h3 h4 h5 h6=>⟨v,y,z0r h1 h2 h3,h4,h5,h6⟩;unfold oY at h;cases op with
 |alloc e=>simp only at h;rcases hi:T.inf e with _|q;simp[hi]at h;have⟨a,b,z⟩:=q;simp[hi]at h;rcases hz:qC z.cells.toList with _|zu;simp[hz]at h;simp[hz]at h;rcases hk:okL zu with _|_;simp[hk]at h;simp[hk,zC,zA,zB]at h;have⟨rfl,rfl⟩:=h;exact fin (v:=.pointer (some ⟨x.s.nx,0,none⟩)) rfl rfl (by simp[uD,hi]) rfl (by simp only[aD];exact⟨rfl,Nc rfl ⟨_,rfl,rfl⟩⟩) (jz hx ((O1 _ _ hz).2 x) hk e)
 |box e o=>simp only at h;rcases ho:cB tm o with _|a;simp[ho]at h;simp[ho]at h;have⟨va,a1,a2⟩:=j6 ht ho;rcases hc:xY a with _|cs;simp[hc]at h;simp[hc]at h;have⟨c1,c2⟩:=im a2 hc;simp[c2,zC,zA,zB]at h;have⟨rfl,rfl⟩:=h;exact fin (v:=.pointer (some ⟨x.s.nx,0,none⟩)) rfl rfl (by simp[uD,a1]) rfl (by simp only[aD];exact⟨rfl,Nc rfl ⟨_,rfl,rfl⟩⟩) (jz hx c1 c2 e)
 |store t a b=>simp only at h;rcases ha:cB tm a with _|au;simp[ha]at h;rcases hb:cB tm b with _|bu;simp[ha,hb]at h;simp[ha,hb]at h;have⟨va,a1,a2⟩:=j6 ht ha;have⟨vb,b1,b2⟩:=j6 ht hb;have⟨v,y,h1,h2,h3,h4⟩:=z7y hx h a2 b2;exact fin rfl rfl (by simp[uD,a1,b1,h1]) h2 h3 h4
 |buildSlice t n ps=>simp only at h;rcases hp:B6 tm ps.toList with _|qs;simp[hp]at h;simp[hp]at h;have⟨vs,h1,h2⟩:=ij ht hp;have⟨v,y,h3,h4,h5,h6⟩:=qwg hx h h2;exact fin rfl rfl (by simp[uD,h1,h3]) h4 h5 h6
 |makeSlice t a b=>simp only at h;rcases ha:cB tm a with _|au;simp[ha]at h;rcases hb:cB tm b with _|bu;simp[ha,hb]at h;simp[ha,hb]at h;have⟨va,a1,a2⟩:=j6 ht ha;have⟨vb,b1,b2⟩:=j6 ht hb;have⟨v,y,h1,h2,h3,h4⟩:=z9x hx h a2 b2;exact fin rfl rfl (by simp[uD,a1,b1,h1]) h2 h3 h4
 |makeMap t r=>
  cases r with
  |none=>simp[zA,zB]at h;have⟨rfl,rfl⟩:=h;exact fin (v:=.map (some x.s.nx)) rfl rfl (by simp[uD]) rfl (by simp only[aD];exact⟨rfl,Nc rfl ⟨_,rfl,rfl⟩⟩) (aw hx (.map [] 0) (.inr ([],0)) fun y h1 h2 hm=>⟨_,[],h1,h2,rfl,by simp⟩)
  |some r=>simp at h
 |mapUpdate t m k v=>simp only at h;rcases hm:cB tm m with _|mu;simp[hm]at h;rcases hk:cB tm k with _|ku;simp[hm,hk]at h;rcases hv:cB tm v with _|vu;simp[hm,hk,hv]at h;simp[hm,hk,hv]at h;have⟨va,a1,a2⟩:=j6 ht hm;have⟨vb,b1,b2⟩:=j6 ht hk;have⟨vc,c1,c2⟩:=j6 ht hv;obtain⟨w,y,h1,h2,h3,h4⟩:=qwi hx h a2 b2 c2;exact fin rfl rfl (by simp[uD,a1,b1,c1,h1]) h2 h3 h4
 |insert t m k v=>simp only at h;rcases hm:cB tm m with _|mu;simp[hm]at h;rcases hk:cB tm k with _|ku;simp[hm,hk]at h;rcases hv:cB tm v with _|vu;simp[hm,hk,hv]at h;simp[hm,hk,hv]at h;have⟨va,a1,a2⟩:=j6 ht hm;have⟨vb,b1,b2⟩:=j6 ht hk;have⟨vc,c1,c2⟩:=j6 ht hv;obtain⟨w,y,h1,h2,h3,h4⟩:=qwi hx h a2 b2 c2;exact fin rfl rfl (by simp[uD,a1,b1,c1,h1]) h2 h3 h4
 |mapEntry t m k=>simp only at h;rcases hm:cB tm m with _|mu;simp[hm]at h;rcases hk:cB tm k with _|ku;simp[hm,hk]at h;simp[hm,hk]at h;have⟨va,a1,a2⟩:=j6 ht hm;obtain⟨vb,b1,b2⟩:=j6 ht hk;obtain⟨w,y,h1,h2,h3,h4⟩:=z2v hx h a2 b2;exact fin rfl rfl (by simp only[uD,a1,b1,h1]) h2 h3 h4
 |entryStore t m k v=>simp only at h;rcases hm:cB tm m with _|mu;simp[hm]at h;rcases hk:cB tm k with _|ku;simp[hm,hk]at h;rcases hv:cB tm v with _|vu;simp[hm,hk,hv]at h;simp only[hm,hk,hv]at h;obtain⟨va,a1,a2⟩:=j6 ht hm;obtain⟨vb,b1,b2⟩:=j6 ht hk;obtain⟨vc,c1,c2⟩:=j6 ht hv;obtain⟨w,y,h1,h2,h3,h4⟩:=z4t hx h a2 b2 c2;exact fin rfl rfl (by simp only[uD,a1,b1,c1,h1]) h2 h3 h4
 |call c=>
  simp only at h;obtain⟨callee,args,ats⟩:=c;cases callee with
  |builtin b=>
   have two:∀{us:V U}{a b:U},mJ tm args.toList=some us->us=[a,b]->∃va vb,kW tv args.toList=some [va,vb]/\aD x a va/\aD x b vb:=fun{us a b} h1 h2=>by subst h2;obtain⟨vs,a1,a2⟩:=ML ht h1;obtain⟨va,rZ,rfl,r1,r2⟩:=a2.inv;obtain⟨vb,vs'',rfl,r3,r4⟩:=r2.inv;rw[r4.nil_inv]at a1;exact⟨va,vb,a1,r1,r3⟩
   cases b with
   |append=>simp only at h;split at h;rename_i a b t xt h1 h2;obtain⟨va,vb,e1,r1,r2⟩:=two h1 rfl;obtain⟨w,y,q1,q2,q3,q4⟩:=qy2 hx h r1 r2;exact fin (by simp only[j0]) (by simp only[o4]) (by simp only[uD,e1,h2,q1]) q2 q3 q4;cases h
   |copy=>simp only at h;split at h;rename_i a b t ts h1 h2;obtain⟨va,vb,e1,r1,r2⟩:=two h1 rfl;obtain⟨w,y,q1,q2,q3,q4⟩:=z98 hx h r1 r2;exact fin (by simp only[j0]) (by simp only[o4]) (by simp only[uD,e1,h2,q1]) q2 q3 q4;cases h
   |delete=>simp only at h;split at h;rename_i a b t ts h1 h2;obtain⟨va,vb,e1,r1,r2⟩:=two h1 rfl;obtain⟨w,y,q1,q2,q3,q4⟩:=zcx hx h r1 r2;exact fin (by simp only[j0]) (by simp only[o4]) (by simp only[uD,e1,h2,q1]) q2 q3 q4;cases h
   |clear=>simp only at h;split at h;rename_i a t ts h1 h2;obtain⟨vs,a1,a2⟩:=ML ht h1;obtain⟨va,rZ,rfl,r1,r2⟩:=a2.inv;rw[r2.nil_inv]at a1;obtain⟨w,y,q1,q2,q3,q4⟩:=z4l hx h r1;exact fin (by simp only[j0]) (by simp only[o4]) (by simp only[uD,a1,h2,q1]) q2 q3 q4;cases h
   |_=>simp at h
  |_=>simp at h
 |_=>simp at h
def Z6{tm:V U}{tv:V O}(ht:bB x tm tv){op:Op}{u:U}(h:bO T x.X tm op=some (u,X')):rQ T x tv op u X':=by
 unfold bO at h;cases h1:j4 T x.X tm op with
 |some v=>simp[h1,zA,zB]at h;have⟨rfl,rfl⟩:=h;exact za9 hx ht h1
 |none=>simp[h1]at h;rcases h2:qG T x.X tm op with _|v;simp[h2]at h;exact zcy hx ht h;simp[h2,zA,zB]at h;have⟨rfl,rfl⟩:=h;exact z1b hx ht h2
omit hx in
def qzo{tm:V U}{tv:V O}(ht:bB x tm tv){op:Op}{f:FuncId}{args:V U}(h:kN T tm op=some (f,args)):∃vs,callOf T tv op=some (f,vs)/\bB x args vs:=by
 unfold kN at h;cases op with
 |call c=>
  simp only at h;obtain⟨callee,a7,ats⟩:=c;cases callee with
  |value o=>
   simp only at h;rcases ho:cB tm o with _|a;simp[ho]at h;obtain⟨va,a1,a2⟩:=j6 ht ho;cases a with
   |fn fn first cap=>
    cases fn with
    |func g=>simp only[ho]at h;simp only[aD]at a2;obtain⟨p,q,rfl,r1,r2,r3,r4⟩:=a2;rcases hg:T.fn g with _|fd;simp[hg]at h;simp only[hg]at h;rcases gW:fd.body.isSome with _|_;simp[gW]at h;simp only[gW,zC]at h;rcases hl:mJ tm a7.toList with _|us;simp[hl]at h;simp only[hl,zA,zB]at h;obtain⟨rfl,rfl⟩:=h;obtain⟨vs,e1,e2⟩:=ML ht hl;exact⟨p++vs++q,by simp only[callOf,a1,hg,gW,zC,e1],((show bB x first p from⟨r1,r2⟩).append e2).append ⟨r3,r4⟩⟩
    |_=>simp[ho]at h
   |_=>simp[ho]at h
  |_=>simp at h
 |_=>simp at h
end
end Go.Vx
