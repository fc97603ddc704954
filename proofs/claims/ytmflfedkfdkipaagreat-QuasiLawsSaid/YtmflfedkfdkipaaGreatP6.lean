import Derived.Test.YtmflfedkfdkipaaGreatP5
set_option linter.all false
namespace Go.Vx
open Go Go.Rx
variable{n:Nat}
def Mr{b:Nat}(h1:n*b<=140737488355328)(h2:n<=140737488355328):vB n b=true:=by simp[vB,Nat.ble_eq_true_of_le h1,Nat.ble_eq_true_of_le h2]
variable{e:O}
def iz{s:S}{i off:Nat}{l:Z A}{md:Nat}(hl:lk s.h i=some (.inl (l,e,md)))(h:off+n<=l.length):nU s (some ⟨i,off,none⟩) n=some ((l.drop off).take n):=by cases n with|zero=>simp[nU]|succ n=>simp only[nU,hl];exact Lh h
def qjt(s:S)(b:I Addr):nU s b 0=some []:=rfl
section
variable{T:Tb}{x:Cx}(hx:i8 x)
include hx
variable{sz:Nat}
variable{k:Nat}
variable{new:Z U}
def Yw(eA:0<sz){u:U}{v:A}(h:rK x.X sz u=some (k,new))(hr:aB x u v):∃b c vs,vC v=.slice b k c/\(v=.slice b k c\/k=0/\b=none/\c=0/\new=[]/\∃r,v=.chan (some r))/\nU x.s b (k*sz)=some vs/\aX x new vs/\okL new=true:=by
 unfold rK at h;cases u with
 |nils=>simp only[zA,zB]at h;obtain⟨rfl,rfl⟩:=h;simp only[aB]at hr;subst hr;exact⟨none,0,[],rfl,.inl rfl,by rw[Nat.zero_mul];rfl,aX.nil x,rfl⟩
 |isl t l=>simp only at h;split at h;rename_i cC;simp only[zA,zB]at h;obtain⟨rfl,rfl⟩:=h;simp only[aB]at hr;rcases hr with⟨rfl,rfl |⟨r,rfl⟩⟩|⟨i,off,c,rfl,_,dD⟩;exact⟨none,0,[],rfl,.inl rfl,by rw[zS,Nat.zero_mul];rfl,aX.nil x,rfl⟩;exact⟨none,0,[],rfl,.inr ⟨rfl,rfl,rfl,rfl,r,rfl⟩,by rw[zS,Nat.zero_mul];rfl,aX.nil x,rfl⟩;by_cases cT:l=[];subst cT;exact⟨_,c,[],rfl,.inl rfl,by rw[zS,Nat.zero_mul];rfl,aX.nil x,rfl⟩;rcases dD with dD |⟨row,e,gS,g1,g2,g3⟩;exact absurd dD cT;have:=qzx g2 cT cC;subst this;obtain⟨f1,f2⟩:=qqo g2;have aN:=Zo g2;rw[List.length_drop]at aN;have:0<l.length*gS:=Nat.mul_pos (by cases l<;>simp_all) eA;exact⟨_,c,_,rfl,.inl rfl,iz g1 (by omega),f1,f2⟩;cases h
 |sl k' off n c=>simp only at h;rcases dD:rowOf x.X k' with _|l;simp[dD]at h;simp only[dD]at h;rcases hs:iZ l off (n*sz)with _|cs;simp[hs]at h;simp only[hs,zA,zB]at h;obtain⟨rfl,rfl⟩:=h;obtain⟨e,hg,hl⟩:=im dD;obtain⟨i,hi,rfl,_⟩:=M6 hl hr;obtain⟨_,k1,i',lv,e1,e2,e3⟩:=hx.ok k' _ hg;rw[hi]at e1;cases e1;obtain⟨s1,s2⟩:=z05 hs e3;obtain⟨q1,rfl⟩:=QJ hs;exact⟨_,c,_,rfl,.inl rfl,iz e2 (by rw[<-e3.2];exact q1),Ly s2,by rw[Dv];exact QC (EA k1 _) _⟩
 |vl k' st off n=>simp only at h;rcases hv:mK x.X k' st with _|q;simp[hv]at h;obtain⟨l,e,gS⟩:=q;obtain⟨hg,hl⟩:=qq hv;simp only[hv,beq_eq]at h;by_cases hz:gS=sz;subst hz;simp only[yC,zC]at h;rcases hs:iZ l (off*gS) (n*gS)with _|cs;simp[hs]at h;simp only[hs,zA,zB]at h;obtain⟨rfl,rfl⟩:=h;obtain⟨q1,rfl⟩:=QJ hs;by_cases hn:n=0;subst hn;obtain⟨_,_,_,_,rQ⟩:=WQ hl hr;obtain⟨b,c,rfl⟩:=uy rQ;exact⟨b,c,[],rfl,.inl rfl,by rw[Nat.zero_mul];rfl,by simpa using aX.nil x,by simp[okL]⟩;obtain⟨i,l0,e0,Kf,l',h1,h2,rfl,h4,h5,h6,h7⟩:=an hx hl hr (by omega);have:=hg.symm.trans h1;cases this;obtain⟨s1,s2⟩:=z05 hs h5;exact⟨_,_,_,rfl,.inl rfl,iz h4 (by rw[<-h5.2];exact q1),s2,QC (EA h7 _) _⟩;simp[hz]at h
 |_=>simp at h
omit hx in
def qr{l:Z U}{e:O}{sz N:Nat}{c:lJ}:aB ⟨lB x.Y x.X.nx (some x.s.nx),newU x.X (.vec l e sz 0),⟨(x.s.nx,c)::x.s.h,x.s.nx+1⟩⟩ (.vl x.X.nx 0 0 N) (.slice (some ⟨x.s.nx,0,none⟩) N bP):=by simp only[aB];refine⟨rfl,by simp[newU],fun b hb=>?_⟩;simp only[newU,aQ,if_true,zA]at hb;subst hb;exact⟨zF _,fun _=>⟨l,e,sz,rfl,by simp[lB,FL]⟩⟩
omit hx in
def ng{e:O}{sz:Nat}{o:I Addr}(ho:∀a,o=some a->a.spot=none):aB ⟨lB x.Y x.X.nx none,newU x.X (.vec [] e sz 0),x.s⟩ (.vl x.X.nx 0 0 0) (.slice o 0 0):=by simp only[aB];refine⟨rfl,by simp[newU],fun b hb=>?_⟩;simp only[newU,aQ,if_true,zA]at hb;subst hb;exact⟨zF _,fun _=>⟨[],e,sz,rfl,by simpa[lB,FL]using ho⟩⟩
variable{t:O}
variable{xt:O}
def qjk{e2:O}{by_:Nat}{z:A}(hd:T.und t=some (.slice e))(cX:T.und xt=some (.slice e2))(hi:T.inf e=some (sz+1,by_,z))(hz:Nat.beq z.cells.toList.length (sz+1)=true)
  {o:I Addr} (ho:∀a,o=some a->a.spot=none) {b:I Addr} {c:Nat} {vs:Z A} (hc:nU x.s b (k*(sz+1))=some vs) (hr:aX x new vs) (hk:okL new=true) (aN:new.length=k*(sz+1)) (bL:k*by_<=140737488355328/\k<=140737488355328):
  ∃v y,sN T x.s t xt (.slice o 0 0) (.slice b k c)=some (v,y.s)/\y.X=newU x.X (.vec new e (sz+1) 0)/\aB y (.vl x.X.nx 0 0 k) v/\Out x y:=by cases k with|zero=>have:new=[]:=List.eq_nil_of_length_eq_zero (by rw[aN];simp);subst this;rw[hr.nil_inv]at hc;refine⟨.slice o 0 0,⟨lB x.Y x.X.nx none,newU x.X (.vec [] e (sz+1) 0),x.s⟩,?_,rfl,ng ho,fg hx e (sz+1) (by omega)⟩;simp only[sN,xI,vC,zD,uK,hd,cX,hi,hc,pU,zC,DD];rfl|succ k=>refine⟨.slice (some ⟨x.s.nx,0,none⟩) (k+1) bP,_,?_,rfl,qr,qw hx hr hk e (by omega)⟩;simp only[sN,xI,vC,zD,uK,hd,cX,hi,hc,QK hr hk,zC,W9,DD,show Nat.ble (k+1) 0=false from rfl,zD,Nat.zero_mul,qjt,hz,Nat.zero_add,Mr bL.1 bL.2,List.nil_append,Rx.newRow]
def nr{e2:O}{by_:Nat}{z:A}(hd:T.und t=some (.slice e))(cX:T.und xt=some (.slice e2))(hi:T.inf e=some (sz+1,by_,z))(hz:Nat.beq z.cells.toList.length (sz+1)=true)
  {o:I Addr} {cp:Nat} {old:Z U} {ov:Z A} (EH:cp<bP) (mA:nU x.s o (n*(sz+1))=some ov) (hor:aX x old ov) (sS:okL old=true) {b:I Addr} {c:Nat} {vs:Z A} (hc:nU x.s b (k*(sz+1))=some vs) (hr:aX x new vs) (hk:okL new=true) (CX:0<k) (AZ:cp<n+k) (bL:(n+k)*by_<=140737488355328/\n+k<=140737488355328):
  ∃v y,sN T x.s t xt (.slice o n cp) (.slice b k c)=some (v,y.s)/\y.X=newU x.X (.vec (old++new) e (sz+1) 0)/\aB y (.vl x.X.nx 0 0 (n+k)) v/\Out x y/\∃b n c,v=.slice (some b) n c:=by
 cases k with
 |zero=>omega|succ k=>
  refine⟨.slice (some ⟨x.s.nx,0,none⟩) (n+(k+1)) bP,_,?_,rfl,qr,qw hx (hor.append hr) (MJ sS hk) e (by omega),_,_,_,rfl⟩;have h1:Nat.ble (n+(k+1)) cp=false:=by rcases h:Nat.ble (n+(k+1)) cp with _|_;rfl;have:=zY h;omega
  simp only[sN,xI,vC,zD,uK,hd,cX,hi,hc,QK hr hk,zC,W9,oL EH,h1,zD,mA,hz,Mr bL.1 bL.2,Rx.newRow]
def Mn{K:Nat}{l l1:Z U}{st:Nat}(hg:gt x.X.h K=some (.vec l e sz st))(o:I Nat)(s':S)(vO:∀i b,lk x.s.h i=some b->x.Y K≠some i->lk s'.h i=some b)(qI:∀i,o=some i->x.Y K=some i\/x.s.nx<=i)
  (fU:∀i b,lk s'.h i=some b->i<s'.nx) (hk:okL l1=true) (hB:∀y:Cx,y.s=s'->Mo x.X.nx x y->l1=[]/\o=none\/∃i l',o=some i/\lk s'.h i=some (.inl (l',e,sz+2))/\aX y l1 l'):
  Out x ⟨lB x.Y K o,⟨ug x.X.h K (.vec l1 e sz (st+1)),x.X.nx⟩,s'⟩:=by have eA:0<sz:=(hx.ok K _ hg).2.2.1;refine step1 hx K (.vec l1 e sz (st+1)) (zF _) (hx.ok K _ hg).1 (fun k hk=>⟨by simp[c7,Ne.symm hk],eh _ _ hk⟩) (by simp[c7,hg]) (.inl ⟨_,hg,Nat.le_succ _,fun h=>by simp[B.st]at h⟩) (fun i b hb cT=>vO i b hb (cT _ hg)) (fun i hi=>?_) fU (fun hm=>⟨hk,eA,?_⟩);change lB _ _ _ _=some i at hi;rw[fh]at hi;rcases qI i hi with h |h;exact .inl ⟨_,hg,h⟩;exact .inr h;rcases hB _ rfl hm with⟨h1,h2⟩|⟨i,l',h1,h2,h3⟩;exact .inl ⟨h1,by simp[lB,h2]⟩;exact .inr ⟨i,l',by simp[lB,h1],h2,h3⟩
omit hx in
def Mb{K:Nat}{l l1:Z U}{e:O}{sz st N:Nat}(hx:i8 x)(hg:gt x.X.h K=some (.vec l e sz st)){o:I Nat}{s':S}{v:A}(h1:v.oneCell'=true)(h:FL 0 N v sz o):
  aB ⟨lB x.Y K o,⟨ug x.X.h K (.vec l1 e sz (st+1)),x.X.nx⟩,s'⟩ (.vl K (st+1) 0 N) v:=by simp only[aB];refine⟨h1,(hx.ok K _ hg).1,fun b hb=>?_⟩;simp only[c7,if_true,hg,zM,zA]at hb;subst hb;exact⟨zF _,fun _=>⟨l1,e,sz,rfl,by simpa[lB]using h⟩⟩
omit hx in
def z0e{sz:Nat}{u:U}{k:Nat}{new:Z U}(h:rK x.X sz u=some (k,new)):new.length=k*sz:=by
 unfold rK at h;cases u with
 |nils=>simp only[zA,zB]at h;obtain⟨rfl,rfl⟩:=h;simp
 |isl t l=>
  simp only at h;split at h;rename_i cC;simp only[zA,zB]at h;obtain⟨rfl,rfl⟩:=h;have:=z4n cC;clear cC;induction l with
  |nil=>simp|cons c l ih=>have h1:=this c (by simp);have h2:=ih fun d hd=>this d (by simp[hd]);simp only[List.flatten_cons,zU,zO,Nat.succ_mul,h2,h1];omega
  cases h
 |sl k' off n c=>simp only at h;rcases dD:rowOf x.X k' with _|l;simp[dD]at h;simp only[dD]at h;rcases hs:iZ l off (n*sz)with _|cs;simp[hs]at h;simp only[hs,zA,zB]at h;obtain⟨rfl,rfl⟩:=h;obtain⟨q1,rfl⟩:=QJ hs;rw[Yu];simp;omega
 |vl k' st off n=>simp only at h;rcases hv:mK x.X k' st with _|q;simp[hv]at h;obtain⟨l,e,gS⟩:=q;simp only[hv,beq_eq]at h;by_cases hz:gS=sz;simp only[hz,yC,zC]at h;rcases hs:iZ l (off*sz) (n*sz)with _|cs;simp[hs]at h;simp only[hs,zA,zB]at h;obtain⟨rfl,rfl⟩:=h;obtain⟨q1,rfl⟩:=QJ hs;simp;omega;simp[hz]at h
 |_=>simp at h
def qvh{a b r:U}{va vb:A}{X':Sg}(h:AG T x.X t xt a b=some (r,X'))(ha:aB x a va)(hb:aB x b vb):∃v y,sN T x.s t xt va vb=some (v,y.s)/\y.X=X'/\aB y r v/\Out x y:=by
 unfold AG at h;rcases hd:T.und t with _|d;simp[hd]at h;cases d with
 |slice e=>
  rcases cX:T.und xt with _|d2;simp[hd,cX]at h;cases d2 with
  |slice e2=>
   simp only[hd,cX]at h;rcases hi:T.inf e with _|q;simp[hi]at h;obtain⟨sz,by_,z⟩:=q;cases sz with
   |zero=>simp[hi]at h|succ sz=>
    simp only[hi]at h;rcases hz:Nat.beq z.cells.toList.length (sz+1)with _|_;simp only[hz,zD]at h;cases h;simp only[hz,zC]at h;rcases hsrc:rK x.X (sz+1) b with _|q;simp[hsrc]at h;obtain⟨k,new⟩:=q;simp only[hsrc]at h;have aN:=z0e hsrc;obtain⟨bb,c,vs,B0,_,hc,hr,hk⟩:=Yw hx (by omega) hsrc hb;have O?:∀va',sN T x.s t xt va' vb=sN T x.s t xt va' (.slice bb k c):=fun va'=>by unfold sN;rw[B0];simp only[vC,xI,zD]
    rw[O?];cases a with
    |nils=>simp only at h;split at h;rename_i bL;simp only[zA,zB]at h;obtain⟨rfl,rfl⟩:=h;simp only[aB]at ha;subst ha;exact qjk hx hd cX hi hz (by simp) hc hr hk aN bL;cases h
    |isl tt l=>
     rcases tt with _|_;simp at h;simp only at h;split at h
     ·rename_i bL;obtain⟨r1,r2,r3,r4⟩:=bL;simp only[zA,zB]at h;obtain⟨rfl,rfl⟩:=h;obtain⟨o,c0,ov,_,e1,e2,e3,e4⟩:=Yw hx (sz:=sz+1) (by omega) (u:=.isl true l) (k:=l.length) (new:=l.flatten) (by simp only[rK,r4,if_true]) ha;rcases e1 with e1 |⟨el,rfl,rfl,enew,rr,rfl⟩
      case inr=>
       have hln:l=[]:=List.eq_nil_of_length_eq_zero el;subst hln;obtain⟨v,y,h1,h2,h3,h4,b1,n1,c1,hv⟩:=nr (T:=T) hx hd cX hi hz (n:=0) (cp:=0) (o:=none) (old:=[]) (ov:=[]) (by simp[bP]) (by rw[Nat.zero_mul];rfl) (aX.nil x) rfl hc hr hk r3 (by omega) ⟨by simpa using r1,by simpa using r2⟩;have h0:uK T x.s t xt (.slice none 0 0) (.slice bb k c)=some (v,y.s):=by simpa only[sN,xI,vC,zD]using h1
       refine⟨v,y,?_,by simpa using h2,by simpa using h3,h4⟩;simp only[sN,xI,vC,zC,zD,h0,hv]
      subst e1;have w4:c0=l.length/\c0<bP:=by simp only[aB]at ha;rcases ha with⟨rfl,h1 |⟨_,h1⟩⟩|⟨i,off,c1,h1,h2,_⟩;cases h1;simp[bP];cases h1;cases h1;exact h2 trivial
      obtain⟨v,y,h1,h2,h3,h4,_⟩:=nr hx hd cX hi hz w4.2 e2 e3 e4 hc hr hk r3 (by omega) ⟨r1,r2⟩;exact⟨v,y,h1,h2,h3,h4⟩
     cases h
    |sl k' off n cp=>
     simp only at h;rcases dD:rowOf x.X k' with _|l;simp[dD]at h;simp only[dD]at h;rcases hs:iZ l off (n*(sz+1))with _|old;simp[hs]at h;simp only[hs]at h;obtain⟨e',hg,hl⟩:=im dD;obtain⟨i,gU,Sj,EH,_⟩:=M6 hl ha;split at h;rename_i h0;obtain⟨rfl,rfl⟩:=h0;split at h;rename_i bL;simp only[zA,zB]at h;obtain⟨rfl,rfl⟩:=h;subst Sj;exact qjk hx hd cX hi hz (by simp) hc hr hk aN bL;cases h;split at h;rename_i AZ;split at h;rename_i bL;obtain⟨r1,r2,r3⟩:=bL;simp only[zA,zB]at h;obtain⟨rfl,rfl⟩:=h;obtain⟨o,c0,ov,_,e1,e2,e3,e4⟩:=Yw hx (sz:=sz+1) (by omega) (u:=.sl k' off n cp) (k:=n) (new:=oU old) (by simp only[rK,dD,hs]) ha;have:o=some ⟨i,off,none⟩/\c0=cp:=by rw[Sj]at e1;rcases e1 with e1 |⟨_,_,_,_,_,e1⟩;cases e1;exact⟨rfl,rfl⟩;cases e1
     obtain⟨rfl,rfl⟩:=this;rw[Sj];obtain⟨v,y,h1,h2,h3,h4,_⟩:=nr hx hd cX hi hz EH e2 e3 e4 hc hr hk r3 AZ ⟨r1,r2⟩;exact⟨v,y,h1,h2,h3,h4⟩;cases h;cases h
    |vl K st off n=>
     simp only at h;rcases hg:gt x.X.h K with _|b0;simp[hg]at h;cases b0 with
     |vec l e' gS bG=>
      simp only[hg,beq_eq]at h;by_cases c9:bG=st;by_cases he:e'=e;by_cases eA:gS=sz+1;subst c9;subst he;subst eA;simp only[yC,zC]at h;rcases hs:iZ l (off*(sz+1)) (n*(sz+1))with _|p;simp[hs]at h;simp only[hs]at h;split at h;rename_i bL;obtain⟨r1,r2,r3⟩:=bL;simp only[zA,zB]at h;obtain⟨rfl,rfl⟩:=h;obtain⟨l0,e0,Kf,rC,rQ⟩:=WQ (x:=x) (by simp[live,hg,B.st]) ha;have:=hg.symm.trans rC;cases this;obtain⟨_,k1,k2,h3⟩:=hx.ok K _ hg;obtain⟨q1,rfl⟩:=QJ hs;rcases h3 with⟨rfl,gX⟩|⟨i,l',e1,e2,e3⟩;rw[gX]at rQ;obtain⟨rfl,rfl,o,rfl,ho⟩:=rQ;cases k with
      |zero=>have:new=[]:=List.eq_nil_of_length_eq_zero (by rw[aN];simp);subst this;rw[hr.nil_inv]at hc;refine⟨.slice o 0 0,⟨lB x.Y K none,⟨ug x.X.h K (.vec [] e' (sz+1) (bG+1)),x.X.nx⟩,x.s⟩,?_,by simp,Mb hx hg rfl ⟨rfl,rfl,o,rfl,ho⟩,Mn hx hg none x.s (fun i b hb _=>hb) (by simp) hx.bd rfl (fun y _ _=>.inl ⟨rfl,rfl⟩)⟩;simp only[sN,xI,vC,zD,uK,hd,cX,hi,hc,pU,zC,DD];rfl|succ k=>
       refine⟨.slice (some ⟨x.s.nx,0,none⟩) (0+(k+1)) bP,⟨lB x.Y K (some x.s.nx),⟨ug x.X.h K (.vec new e' (sz+1) (bG+1)),x.X.nx⟩,Rx.newRow x.s vs e' (sz+1+2)⟩,?_,by simp,Mb hx hg rfl (.inr (by simp)),Mn hx hg (some x.s.nx) _ (fun i b hb _=>?_) (fun i hi=>.inr (by cases hi;exact zF _)) (fun i b hb=>?_) hk (fun y hy hm=>.inr ⟨x.s.nx,vs,rfl,?_,hm.ke.E hr.bel hr⟩)⟩;have h1:Nat.ble (0+(k+1)) 0=false:=by rcases h:Nat.ble (0+(k+1)) 0 with _|_;rfl;have:=zY h;omega
       simp only[sN,xI,vC,zD,uK,hd,cX,hi,hc,QK hr hk,zC,W9,DD,h1,zD,Nat.zero_mul,qjt,hz,Mr r1 r2,List.nil_append];have:=hx.bd i b hb;simp[Rx.newRow,lQ,show x.s.nx≠i by omega,hb];simp only[Rx.newRow,lQ]at hb ⊢;split at hb;omega;exact Nat.lt_succ_of_lt (hx.bd i b hb);simp[Rx.newRow,lQ]
      rw[e1]at rQ;rcases rQ with⟨h0,rfl,_⟩|rfl;omega;have nW:cE x.s i=some (l',e',sz+1+2):=by simp[cE,e2]
      have hcc:Nat.blt (bP+off) bP=false:=JU (by omega);have B1:bI (bP+off)=off:=by simp[bI]
      have Sq:u9 l' (off*(sz+1)) (n*(sz+1))=some ((l'.drop (off*(sz+1))).take (n*(sz+1))):=Lh (by rw[<-e3.2];exact q1);have dO:Nat.beq (off*(sz+1)) (off*(sz+1))=true:=by simp
      cases k with
      |zero=>
       have:new=[]:=List.eq_nil_of_length_eq_zero (by rw[aN];simp);subst this;rw[hr.nil_inv]at hc;have h0:off=0/\n*(sz+1)=l.length:=by omega
       obtain⟨rfl,AZ⟩:=h0;have hp:(l.drop (0*(sz+1))).take (n*(sz+1))++[]=l:=by simp[AZ]
       rw[hp];refine⟨.slice (some ⟨i,0*(sz+1),none⟩) n (bP+0),⟨lB x.Y K (some i),⟨ug x.X.h K (.vec l e' (sz+1) (bG+1)),x.X.nx⟩,x.s⟩,?_,by simp,Mb hx hg rfl (.inr rfl),Mn hx hg (some i) x.s (fun i b hb _=>hb) (fun j hj=>.inl (by cases hj;exact e1)) hx.bd k1 (fun y _ hm=>.inr ⟨i,l',rfl,e2,hm.ke.E e3.bel e3⟩)⟩;simp only[sN,xI,vC,zD,uK,hd,cX,hi,hc,pU,zC,hcc,zD,nW,Nat.beq_refl,B1,Sq]
      |succ k=>have m8:aX x ((l.drop (off*(sz+1))).take (n*(sz+1))++new) ((l'.drop (off*(sz+1))).take (n*(sz+1))++vs):=((e3.drop _).take _).append hr;have hpk:=MJ (QC (EA k1 (off*(sz+1))) (n*(sz+1))) hk;refine⟨.slice (some ⟨x.s.nx,0,none⟩) (n+(k+1)) bP,⟨lB x.Y K (some x.s.nx),⟨ug x.X.h K (.vec ((l.drop (off*(sz+1))).take (n*(sz+1))++new) e' (sz+1) (bG+1)),x.X.nx⟩,⟨(x.s.nx,.inl ((l'.drop (off*(sz+1))).take (n*(sz+1))++vs,e',sz+1+2))::rm x.s.h i,x.s.nx+1⟩⟩,?_,rfl,Mb hx hg rfl (.inr (by simp)),Mn hx hg (some x.s.nx) _ (fun j b hb cT=>?_) (fun i hi=>.inr (by cases hi;exact zF _)) (fun j b hb=>?_) hpk (fun y hy hm=>.inr ⟨x.s.nx,_,rfl,?_,hm.ke.E m8.bel m8⟩)⟩;simp only[sN,xI,vC,zD,uK,hd,cX,hi,hc,QK hr hk,zC,W9,hcc,zD,nW,Nat.beq_refl,B1,Sq,hz,Mr r1 r2];have:=hx.bd j b hb;have kB:i≠j:=fun h=>cT (by rw[e1,h]);simp[lQ,Dr,show x.s.nx≠j by omega,kB,hb];simp only[lQ,Dr]at hb ⊢;split at hb;omega;split at hb;cases hb;exact Nat.lt_succ_of_lt (hx.bd j b hb);simp[lQ]
      cases h;simp[c9,he,eA]at h;simp[c9,he]at h;simp[c9]at h
     |_=>simp[hg]at h
    |_=>simp at h
  |_=>simp[hd,cX]at h
 |_=>simp[hd]at h
end
def z7n(es:Z ME)(i:Nat)(f:ME->ME):U9 es i f=es.modify i f:=by induction es generalizing i with|nil=>simp[U9]|cons e es ih=>cases i<;>simp[U9,ih]
def qxs(es:Z ME)(i:Nat):Em es i=es.eraseIdx i:=by induction es generalizing i with|nil=>simp[Em]|cons e es ih=>cases i<;>simp[Em,ih]
variable{x:Cx}
variable{es:Z ME}
variable{vs:Z MapEntry}
variable{k:U}
variable{v:U}
variable{kv:A}
variable{vv:A}
def nI.snoc(h:nI x es vs)(hk:aB x k kv)(hv:aB x v vv)(b:Nat):nI x (es++[⟨k,v,b⟩]) (vs++[⟨kv,vv,b⟩]):=by
 refine⟨by simp[h.1],fun i e he=>?_⟩;rw[List.getElem?_append]at he ⊢;rw[<-h.1];split at he;rename_i aH;simp only[aH,if_true];exact h.2 i e he;rename_i aH;simp only[aH,if_false];cases hj:i-es.length with
 |zero=>simp[hj]at he;subst he;exact⟨⟨kv,vv,b⟩,by simp,hk,hv,rfl⟩|succ j=>simp[hj]at he
def nI.mod(h:nI x es vs)(j:Nat)(hv:aB x v vv):nI x (U9 es j fun e=>{ e with val:=v }) (L3 vs j fun e=>{ e with val:=vv }):=by rw[z7n,I'];refine⟨by simp[h.1],fun i e he=>?_⟩;rw[List.getElem?_modify]at he ⊢;rcases hi:es[i]? with _|e0;simp[hi]at he;obtain⟨v0,q1,q2,q3,q4⟩:=h.2 i e0 hi;rw[hi]at he;simp only[Option.map_eq_map,zM,zA]at he;rw[q1];by_cases hji:j=i;simp only[hji,if_true]at he ⊢;subst he;exact⟨_,rfl,q2,hv,q4⟩;simp only[hji,if_false]at he ⊢;subst he;exact⟨_,rfl,q2,q3,q4⟩
def nI.erase(h:nI x es vs)(j:Nat):nI x (Em es j) (WJ vs j):=by rw[qxs,qpa];refine⟨by simp[List.length_eraseIdx,h.1],fun i e he=>?_⟩;rw[List.getElem?_eraseIdx]at he ⊢;split at he;rename_i aH;simp only[aH,if_true];exact h.2 i e he;rename_i aH;simp only[aH,if_false];exact h.2 _ e he
def nI.mono{y:Cx}(hm:Mo x.X.nx x y)(h:nI x es vs):nI y es vs:=⟨h.1,fun j e he=>by
  obtain⟨v,q1,q2,q3,q4⟩:=h.2 j e he;exact⟨v,q1,hm.ke _ _ (aB.bel _ _ q2) q2,hm.ke _ _ (aB.bel _ _ q3) q3,q4⟩⟩
def qt9{x:Cx}{b:Int}: ∀{es:Z ME}{vs:Z MapEntry}(i:Nat),nI x es vs->Lb b es i=PV b vs i
  | [], vs, i, h => by have : vs = [] := by have := h.1; simpa using this.symm
                       subst this;rfl
  |e::es,[],i,h=> by have:=h.1;simp at this
  |e::es,v::vs,i,h=> by obtain⟨v0,q0,q1,q2,q3⟩:=h.2 0 e rfl;simp at q0;subst q0;have h':nI x es vs:=⟨by have:=h.1;simpa using this,fun j d hd=> by simpa using h.2 (j+1) d (by simpa using hd)⟩;simp only[Lb,PV,q3,qt9 (i+1) h']
section
variable{T:Tb}{x:Cx}(hx:i8 x)
include hx
variable{m:U}
variable{mv:A}
def Ea{m:U}{r:Nat}{cl:Nat}(hm:aB x (.map r) mv)(hg:gt x.X.h r=some (.map es cl)):∃i es',x.Y r=some i/\mv=.map (some i)/\lk x.s.h i=some (.inr (es',cl))/\nI x es es'/\AE x.s i=some (es',cl):=by obtain⟨i,hi,rfl⟩:=Zs (x:=x) (by simp[live,hg,B.st]) hm;obtain⟨_,i',es',e1,e2,e3⟩:=hx.ok r _ hg;rw[hi]at e1;cases e1;exact⟨i,es',hi,rfl,e2,e3,by simp[AE,e2]⟩
def Q5{r i:Nat}{es1:Z ME}{es' Bn:Z MapEntry}{cl cl1:Nat}(hg:gt x.X.h r=some (.map es cl))(hi:x.Y r=some i)(hl:lk x.s.h i=some (.inr (es',cl)))(hr:nI x es1 Bn):
  Out x ⟨x.Y,M5 x.X r es1 cl1,JM x.s i Bn cl1⟩:=
 Fg hx hg hi hl rfl (by simp) fun y h1 h2 hm=>⟨i,Bn,h1,h2,hr.mono hm⟩
variable{t:O}
variable{r:U}
variable{X':Sg}
def qpz(h:Yj T x.X t m k v=some (r,X'))(hm:aB x m mv)(hk:aB x k kv)(hv:aB x v vv):∃rv y,WH T x.s t mv kv vv=some (rv,y.s)/\y.X=X'/\aB y r rv/\Out x y:=by
 unfold Yj at h;rcases hd:T.und t with _|d;simp[hd]at h;cases d with
 |map kt et=>
  cases m with
  |map q=>
   simp only[hd]at h;rcases uQ:toV k with _|kv0;simp[uQ]at h;simp only[uQ]at h;have e0:=(vF _ _ uQ x kv).1 hk;subst e0;rcases h1:o7 T 50 kt kv with _|_;simp[h1]at h;rcases h2:plain kv with _|_;simp[h1,h2]at h;simp only[h1,h2,zC]at h;rcases hg:gt x.X.h q with _|b;simp[hg]at h;cases b with
   |map es cl=>simp only[hg]at h;obtain⟨i,es',hi,rfl,hl,hr,ho⟩:=Ea hx (m:=.map q) hm hg;rcases hf:BW T kt kv es 0 with _|f;simp[hf]at h;rcases Nd 0 hr hf with⟨rfl,f1⟩|⟨j,u,w,rfl,f1,f2,f3,d,d',f4,f5,f6,f7,f8,f9⟩;simp only[hf,zA,zB]at h;obtain⟨rfl,rfl⟩:=h;exact⟨undef,_,by simp only[WH,hd,h1,h2,zC,ho,f1],rfl,by simp[aB],Q5 hx hg hi hl (hr.snoc hk hv cl)⟩;simp only[Nat.sub_zero]at f4 f6;simp only[hf,i9,f4]at h;rcases fT:toV d.key with _|kv';simp[fT]at h;simp only[fT]at h;have e1:=(vF _ _ fT x d'.key).1 f7;rcases hveq:A7 50 kv' kv with _|_;simp[hveq]at h;simp only[hveq,zC,zA,zB]at h;obtain⟨rfl,rfl⟩:=h;exact⟨undef,_,by simp only[WH,hd,h1,h2,zC,ho,f1,i9,f6,e1,hveq],rfl,by simp[aB],Q5 hx hg hi hl (hr.mod j hv)⟩
   |_=>simp[hg]at h
  |_=>simp[hd]at h
 |_=>simp[hd]at h
def qvy(h:S' T x.X t m k=some (r,X'))(hm:aB x m mv)(hk:aB x k kv):∃rv y,Et T x.s t mv kv=some (rv,y.s)/\y.X=X'/\aB y r rv/\Out x y:=by
 unfold S' at h;rcases hd:T.und t with _|d;simp[hd]at h;cases d with
 |map kt et=>
  cases m with
  |map q=>
   simp only[hd]at h;rcases uQ:toV k with _|kv0;simp[uQ]at h;simp only[uQ]at h;have e0:=(vF _ _ uQ x kv).1 hk;subst e0;rcases h1:o7 T 50 kt kv with _|_;simp[h1]at h;rcases h2:plain kv with _|_;simp[h1,h2]at h;simp only[h1,h2,zC]at h;rcases hg:gt x.X.h q with _|b;simp[hg]at h;cases b with
   |map es cl=>
    simp only[hg]at h;obtain⟨i,es',hi,rfl,hl,hr,ho⟩:=Ea hx (m:=.map q) hm hg;have F5:∀{y:Cx}{p:U}{p':A}{n:Nat},aB y p p'->aB y (.tup [p,.int .i64 n]) (.tuple #[p',.int .i64 n]):=fun{y p p' n} hp=>by simp only[aB];exact⟨[p',.int .i64 n],rfl,by simp[c8,hp,aB],rfl⟩
    rcases hf:BW T kt kv es 0 with _|f;simp[hf]at h;rcases Nd 0 hr hf with⟨rfl,f1⟩|⟨j,u,w,rfl,f1,f2,f3,d,d',f4,f5,f6,f7,f8,f9⟩;simp only[hf]at h;rcases hinf:T.inf et with _|z;simp[hinf]at h;obtain⟨z1,z2,z⟩:=z;simp only[hinf]at h;rcases hz:iB z with _|zu;simp[hz]at h;simp only[hz,zA,zB]at h;obtain⟨rfl,rfl⟩:=h;exact⟨.tuple #[z,.int .i64 cl],_,by simp only[Et,hd,h1,h2,zC,ho,f1,hinf],rfl,F5 ((JL _ _ hz).2 _),Q5 hx hg hi hl (hr.snoc hk ((JL _ _ hz).2 x) cl)⟩;simp only[Nat.sub_zero]at f4 f6;simp only[hf,i9,f4]at h;rcases fT:toV d.key with _|kv';simp[fT]at h;simp only[fT]at h;have e1:=(vF _ _ fT x d'.key).1 f7;rcases hveq:A7 50 kv' kv with _|_;simp[hveq]at h;simp only[hveq,zC,zA,zB]at h;obtain⟨rfl,rfl⟩:=h;have iD:=Q5 hx hg hi hl (cl1:=cl) hr;exact⟨.tuple #[w,.int .i64 d'.born],_,by simp only[Et,hd,h1,h2,zC,ho,f1,i9,f6,e1,hveq],rfl,by rw[f8];exact F5 (iD.mo.ke _ _ (aB.bel _ _ f2) f2),iD⟩
   |_=>simp[hg]at h
  |_=>simp[hd]at h
 |_=>simp[hd]at h
def qxq{st:U}{sv:A}(h:br x.X m st v=some (r,X'))(hm:aB x m mv)(hs:aB x st sv)(hv:aB x v vv):∃rv y,Lq x.s mv sv vv=some (rv,y.s)/\y.X=X'/\aB y r rv/\Out x y:=by
 unfold br at h;cases m with
 |map q=>
  cases st with
  |int k b=>
   simp only at h;simp only[aB]at hs;subst hs;rcases hg:gt x.X.h q with _|bb;simp[hg]at h;cases bb with
   |map es cl=>simp only[hg]at h;obtain⟨i,es',hi,rfl,hl,hr,ho⟩:=Ea hx (m:=.map q) hm hg;rcases hb:Lb b es 0 with _|j;simp[hb]at h;simp only[hb,zA,zB]at h;obtain⟨rfl,rfl⟩:=h;rw[qt9 0 hr]at hb;exact⟨undef,_,by simp only[Lq,ho,hb],rfl,by simp[aB],Q5 hx hg hi hl (hr.mod j hv)⟩
   |_=>simp[hg]at h
  |_=>simp at h
 |_=>simp at h
def z71(h:Bv T x.X t m k=some (r,X'))(hm:aB x m mv)(hk:aB x k kv):∃rv y,DB T x.s t mv kv=some (rv,y.s)/\y.X=X'/\aB y r rv/\Out x y:=by
 unfold Bv at h;rcases hd:T.und t with _|d;simp[hd]at h;cases d with
 |map kt et=>
  cases m with
  |map q=>
   simp only[hd]at h;rcases uQ:toV k with _|kv0;simp[uQ]at h;simp only[uQ]at h;have e0:=(vF _ _ uQ x kv).1 hk;subst e0;rcases h1:o7 T 50 kt kv with _|_;simp[h1]at h;simp only[h1,zC]at h;rcases hg:gt x.X.h q with _|b;simp[hg]at h;cases b with
   |map es cl=>simp only[hg]at h;obtain⟨i,es',hi,rfl,hl,hr,ho⟩:=Ea hx (m:=.map q) hm hg;rcases hf:BW T kt kv es 0 with _|f;simp[hf]at h;rcases Nd 0 hr hf with⟨rfl,f1⟩|⟨j,u,w,rfl,f1,_⟩;simp only[hf,zA,zB]at h;obtain⟨rfl,rfl⟩:=h;exact⟨undef,_,by simp only[DB,hd,h1,zC,ho,f1],rfl,by simp[aB],Q5 hx hg hi hl hr⟩;simp only[hf,zA,zB]at h;obtain⟨rfl,rfl⟩:=h;exact⟨undef,_,by simp only[DB,hd,h1,zC,ho,f1],rfl,by simp[aB],Q5 hx hg hi hl (hr.erase j)⟩
   |_=>simp[hg]at h
  |_=>simp[hd]at h
 |_=>simp[hd]at h
def z2f{d s:U}{dv sv:A}(h:um T x.X t d s=some (r,X'))(bB:aB x d dv)(KR:aB x s sv):∃rv y,Kz T x.s t dv sv=some (rv,y.s)/\y.X=X'/\aB y r rv/\Out x y:=by
 unfold um at h;rcases hd:T.und t with _|dd;simp[hd]at h;cases dd with
 |slice e=>
  simp only[hd]at h;rcases hs:c6 T e with _|sz;simp[hs]at h;simp only[hs]at h;rcases hsrc:rK x.X sz s with _|q;simp[hsrc]at h;obtain⟨k,cs⟩:=q;simp only[hsrc]at h;cases d with
  |sl a off n c=>
   simp only at h;rcases dD:rowOf x.X a with _|l;simp[dD]at h;simp only[dD]at h;split at h;cases h;rename_i eX;have qC:0<n/\0<k/\0<sz:=by omega
   obtain⟨b,c0,vs,_,Hx,hc,hr,hk⟩:=Yw hx qC.2.2 hsrc KR;obtain rfl:sv=.slice b k c0:=by rcases Hx with Hx |⟨h0,_⟩;exact Hx;omega
   have aN:=z0e hsrc;rcases hput:o6 l off (cs.take (Nat.min k n*sz))with _|l1;simp[hput]at h;simp only[hput]at h;obtain⟨e',hg,hl⟩:=im dD;obtain⟨i,hi,rfl,_⟩:=M6 hl bB;obtain⟨_,k1,i',lv,e1,e2,e3⟩:=hx.ok a _ hg;rw[hi]at e1;cases e1;simp only[JH,hg,zA,zB]at h;obtain⟨rfl,rfl⟩:=h;have EF:Nat.min k n*sz<=k*sz:=Nat.mul_le_mul_right _ (Nat.min_le_left _ _);have hmp:0<Nat.min k n*sz:=Nat.mul_pos (by simp[Nat.min_def];split<;>omega) qC.2.2;have fY:nU x.s b (Nat.min k n*sz)=some (vs.take (Nat.min k n*sz)):=by obtain⟨q1,AQ⟩:∃q,k*sz=q+1:=⟨k*sz-1,by have:=Nat.mul_pos qC.2.1 qC.2.2;omega⟩;obtain⟨q2,oO⟩:∃q,Nat.min k n*sz=q+1:=⟨Nat.min k n*sz-1,by omega⟩;rw[AQ]at hc;rw[oO];unfold nU at hc ⊢;rcases b with _|a;simp at hc;simp only at hc ⊢;rcases xM:lk x.s.h a.block with _|bb;simp[xM]at hc;rcases bb with⟨l0,e0,md0⟩|⟨m0,c1⟩;simp only[xM]at hc ⊢;obtain⟨s1,s2⟩:=Mp hc;rw[s1,Lh (by omega),List.take_take];congr 2;omega;simp[xM]at hc
   have I_:=hr.take (Nat.min k n*sz);have hkt:=QC hk (Nat.min k n*sz);obtain⟨rv,p1,p2,p3⟩:=Yz hput e3 I_;have nW:cE x.s i=some (lv,e',0):=by simp[cE,e2]
   refine⟨.int .i64 (Nat.min k n),⟨x.Y,⟨ug x.X.h a (.row l1 e'),x.X.nx⟩,⟨up x.s.h i (.inl (rv,e',0)),x.s.nx⟩⟩,?_,rfl,by simp[aB],Fg hx hg hi e2 rfl (by simp) fun y h1 h2 hm=>⟨p3 k1 hkt,i,rv,h1,h2,hm.ke.E p2.bel p2⟩⟩;simp only[Kz,hd,hs,fY,QK I_ hkt,zC];cases hv:vs.take (Nat.min k n*sz)with
   |nil=>exfalso;have h1:=I_.2;rw[hv]at h1;have h2:cs.length=k*sz:=aN;rw[List.length_take,h2,Nat.min_eq_left EF]at h1;simp only[zS]at h1;omega|cons v0 Iu=>rw[hv]at p1;simp only[nW,p1]
  |_=>simp at h
 |_=>simp[hd]at h
def qra{xt:O}{a b:U}{va vb:A}(h:dy T x.X t xt a b=some (r,X'))(ha:aB x a va)(hb:aB x b vb):∃v y,WS T x.s t xt va vb=some (v,y.s)/\y.X=X'/\aB y r v/\Out x y:=by
 unfold dy at h;split at h;rename_i e kd kd' i hd cX;simp only[aB]at ha hb;subst ha;subst hb;split at h;rename_i sz by_ z hi;split at h;rename_i zu hz;split at h;rename_i hc;obtain⟨c1,c2,c3,c4,c5⟩:=hc;simp only[zA,zB]at h;obtain⟨rfl,rfl⟩:=h;obtain⟨k,hk⟩:∃k,i.toNat=k+1:=⟨i.toNat-1,by omega⟩;have hw:IntKind.i64.wrap i=Int.ofNat (k+1):=by rw[oA (by omega) (by omega),<-hk];simp;omega
 have oN:=(M4 _ _ hz).2 x;have gY:aX x (qV zu (k+1)) (bY z.cells.toList (k+1)):=Ft oN (k+1);have sS:okL (qV zu (k+1))=true:=am c5 _;have h1:=QK gY sS;have bL:vB (k+1) by_=true:=Mr (by rw[<-hk];exact c2) (by rw[<-hk];exact c3);have hb:Nat.beq z.cells.toList.length (sz+1)=true:=by simp[beq_eq,c4]
 rw[hk];refine⟨.slice (some ⟨x.s.nx,0,none⟩) (k+1) bP,_,?_,rfl,qr,qw hx (Ly gY) (by rw[Dv];exact sS) e (by omega)⟩;have hn:sN T x.s t xt (.slice none 0 0) (.int kd' i)=none:=by simp[sN,xI,vC,uK,hd,cX]
 simp only[WS,hn,Zj,hd,cX,hi,hw,bL,hb,h1,zC];rfl;cases h;cases h;cases h;cases h
def qrb{xt:O}{a b:U}{va vb:A}(h:qc T x.X t xt a b=some (r,X'))(ha:aB x a va)(hb:aB x b vb):∃v y,WS T x.s t xt va vb=some (v,y.s)/\y.X=X'/\aB y r v/\Out x y:=by unfold qc at h;split at h;rename_i q hq;cases h;obtain⟨v,y,h1,h2,h3,h4⟩:=qvh hx hq ha hb;exact⟨v,y,by simp only[WS,h1],h2,h3,h4⟩;exact qra hx h ha hb
def qxh{d:U}{dv:A}(h:cj T x.X t d=some (r,X'))(bB:aB x d dv):∃rv y,WM T x.s t dv=some (rv,y.s)/\y.X=X'/\aB y r rv/\Out x y:=by
 unfold cj at h;rcases hd:T.und t with _|dd;simp[hd]at h;cases dd with
 |slice e=>
  simp only[hd]at h;rcases hi:T.inf e with _|q;simp[hi]at h;obtain⟨sz,by_,z⟩:=q;simp only[hi]at h;rcases hz:nH z.cells.toList with _|zu;simp[hz]at h;simp only[hz]at h;have oN:=(M4 _ _ hz).2 x;rcases sS:okL zu with _|_;simp[sS]at h;rw[sS]at h;rcases aN:Nat.beq z.cells.toList.length sz with _|_;rw[aN]at h;cases h;rw[aN]at h;simp only[zC]at h;have uN:zu.length=sz:=by rw[oN.2];simpa[beq_eq]using aN
  have oN:=Ly oN;have uN:(oU zu).length=sz:=by rw[Yu];exact uN
  cases d with
  |nils=>simp only[zA,zB]at h;obtain⟨rfl,rfl⟩:=h;simp only[aB]at bB;subst bB;exact⟨undef,x,by simp[WM,hd],rfl,by simp[aB],Out.refl hx⟩
  |vl k st off n=>
   simp only at h;rcases hv:mK x.X k st with _|q;simp[hv]at h;obtain⟨l,e',gS⟩:=q;simp only[hv]at h;rcases hs:Nat.beq gS sz with _|_;simp[hs]at h;have KR:gS=sz:=by simpa[beq_eq]using hs
   subst KR;simp only[hs,zC]at h;obtain⟨hg,hl⟩:=qq hv;simp only at hg;obtain⟨l2,e2,sz2,NW,yf⟩:=WQ hl bB;rw[hg]at NW;cases NW;by_cases hn:n=0;simp only[hn,if_true,zA,zB]at h;obtain⟨rfl,rfl⟩:=h;obtain⟨a,c,rfl⟩:=uy yf;subst hn;exact⟨undef,x,by simp[WM,hd],rfl,by simp[aB],Out.refl hx⟩;simp only[hn,if_false]at h;rcases hp:o6 l (off*gS) (qV (oU zu) n)with _|l1;simp[hp]at h;simp only[hp,zA,zB]at h;obtain⟨rfl,rfl⟩:=h;obtain⟨_,k1,k2,k3⟩:=hx.ok k _ hg;rcases k3 with⟨rfl,fF⟩|⟨i,lv,HF,Ac,HD⟩;exfalso;have:=(qqa hp).1;simp only[qV,List.length_flatten,List.map_replicate,List.sum_replicate_nat,uN,zS]at this;have:=Nat.mul_pos (Nat.pos_of_ne_zero hn) k2;omega;rw[HF]at yf;simp only[FL]at yf;rcases yf with⟨_,h0,_⟩|rfl;exact absurd h0 hn;obtain⟨rv,p1,p2,p3⟩:=Yz hp HD (Ft oN n);obtain⟨n',rfl⟩:∃n',n=n'+1:=⟨n-1,by omega⟩;have hzo:=am (zu:=oU zu) (by rw[Dv];exact sS) (n'+1);have h1:=QK (Ft oN (n'+1)) hzo;have nW:cE x.s i=some (lv,e',gS+2):=by simp[cE,Ac]
   refine⟨undef,⟨x.Y,⟨ug x.X.h k (.vec l1 e' gS st),x.X.nx⟩,⟨up x.s.h i (.inl (rv,e',gS+2)),x.s.nx⟩⟩,?_,rfl,by simp[aB],Fg hx hg HF Ac rfl (by rintro l e sz st h;cases h;exact⟨_,rfl⟩) fun y h1 h2 hm=>⟨p3 k1 hzo,k2,.inr ⟨i,rv,h1,h2,hm.ke.E p2.bel p2⟩⟩⟩;simp only[WM,hd,hi,h1,zC,nW,p1]
  |_=>simp at h
 |_=>simp[hd]at h
def z72{tm:Z U}{tv:Z A}(ht:aX x tm tv){op:Op}{u:U}(h:nS T x.X tm op=some (u,X')):o4 T x tv op u X':=by
 have fin:∀{v:A}{y:Cx},gT T tv op=none->mL T tv x.s op=none->qS T tv x.s op=some (v,y.s)->y.X=X'->aB y u v->Out x y->o4 T x tv op u X':=fun{v y} h1 h2 h3 h4 h5 h6=>⟨v,y,qub h1 h2 h3,h4,h5,h6⟩;unfold nS at h;cases op with
 |alloc e=>simp only at h;rcases hi:T.inf e with _|q;simp[hi]at h;obtain⟨a,b,z⟩:=q;simp only[hi]at h;rcases hz:nH z.cells.toList with _|zu;simp[hz]at h;simp only[hz]at h;rcases hk:okL zu with _|_;simp[hk]at h;simp only[hk,zC,zA,zB]at h;obtain⟨rfl,rfl⟩:=h;exact fin (v:=.pointer (some ⟨x.s.nx,0,none⟩)) rfl rfl (by simp only[qS,hi]) rfl (by simp only[aB];exact⟨rfl,Md rfl ⟨_,rfl,rfl⟩⟩) (qx hx ((M4 _ _ hz).2 x) hk e)
 |box e o=>simp only at h;rcases ho:bS tm o with _|a;simp[ho]at h;simp only[ho]at h;obtain⟨va,a1,a2⟩:=fI ht ho;rcases hc:uG a with _|cs;simp[hc]at h;simp only[hc]at h;obtain⟨c1,c2⟩:=ie a2 hc;simp only[c2,zC,zA,zB]at h;obtain⟨rfl,rfl⟩:=h;exact fin (v:=.pointer (some ⟨x.s.nx,0,none⟩)) rfl rfl (by simp only[qS,a1]) rfl (by simp only[aB];exact⟨rfl,Md rfl ⟨_,rfl,rfl⟩⟩) (qx hx c1 c2 e)
 |store t a b=>simp only at h;rcases ha:bS tm a with _|au;simp[ha]at h;rcases hb:bS tm b with _|bu;simp[ha,hb]at h;simp only[ha,hb]at h;obtain⟨va,a1,a2⟩:=fI ht ha;obtain⟨vb,b1,b2⟩:=fI ht hb;obtain⟨v,y,h1,h2,h3,h4⟩:=z0i hx h a2 b2;exact fin rfl rfl (by simp only[qS,a1,b1,h1]) h2 h3 h4
 |buildSlice t n ps=>simp only at h;rcases hp:wZ tm ps.toList with _|qs;simp[hp]at h;simp only[hp]at h;obtain⟨vs,h1,h2⟩:=fv ht hp;obtain⟨v,y,h3,h4,h5,h6⟩:=qpy hx h h2;exact fin rfl rfl (by simp only[qS,h1,h3]) h4 h5 h6
 |makeSlice t a b=>simp only at h;rcases ha:bS tm a with _|au;simp[ha]at h;rcases hb:bS tm b with _|bu;simp[ha,hb]at h;simp only[ha,hb]at h;obtain⟨va,a1,a2⟩:=fI ht ha;obtain⟨vb,b1,b2⟩:=fI ht hb;obtain⟨v,y,h1,h2,h3,h4⟩:=z37 hx h a2 b2;exact fin rfl rfl (by simp only[qS,a1,b1,h1]) h2 h3 h4
 |makeMap t r=>
  cases r with
  |none=>simp only[zA,zB]at h;obtain⟨rfl,rfl⟩:=h;exact fin (v:=.map (some x.s.nx)) rfl rfl (by simp only[qS]) rfl (by simp only[aB];exact⟨rfl,Md rfl ⟨_,rfl,rfl⟩⟩) (ao hx (.map [] 0) (.inr ([],0)) fun y h1 h2 hm=>⟨_,[],h1,h2,rfl,by simp⟩)
  |some r=>simp at h
 |mapUpdate t m k v=>simp only at h;rcases hm:bS tm m with _|mu;simp[hm]at h;rcases hk:bS tm k with _|ku;simp[hm,hk]at h;rcases hv:bS tm v with _|vu;simp[hm,hk,hv]at h;simp only[hm,hk,hv]at h;obtain⟨va,a1,a2⟩:=fI ht hm;obtain⟨vb,b1,b2⟩:=fI ht hk;obtain⟨vc,c1,c2⟩:=fI ht hv;obtain⟨w,y,h1,h2,h3,h4⟩:=qpz hx h a2 b2 c2;exact fin rfl rfl (by simp only[qS,a1,b1,c1,h1]) h2 h3 h4
 |insert t m k v=>simp only at h;rcases hm:bS tm m with _|mu;simp[hm]at h;rcases hk:bS tm k with _|ku;simp[hm,hk]at h;rcases hv:bS tm v with _|vu;simp[hm,hk,hv]at h;simp only[hm,hk,hv]at h;obtain⟨va,a1,a2⟩:=fI ht hm;obtain⟨vb,b1,b2⟩:=fI ht hk;obtain⟨vc,c1,c2⟩:=fI ht hv;obtain⟨w,y,h1,h2,h3,h4⟩:=qpz hx h a2 b2 c2;exact fin rfl rfl (by simp only[qS,a1,b1,c1,h1]) h2 h3 h4
 |mapEntry t m k=>simp only at h;rcases hm:bS tm m with _|mu;simp[hm]at h;rcases hk:bS tm k with _|ku;simp[hm,hk]at h;simp only[hm,hk]at h;obtain⟨va,a1,a2⟩:=fI ht hm;obtain⟨vb,b1,b2⟩:=fI ht hk;obtain⟨w,y,h1,h2,h3,h4⟩:=qvy hx h a2 b2;exact fin rfl rfl (by simp only[qS,a1,b1,h1]) h2 h3 h4
 |entryStore t m k v=>simp only at h;rcases hm:bS tm m with _|mu;simp[hm]at h;rcases hk:bS tm k with _|ku;simp[hm,hk]at h;rcases hv:bS tm v with _|vu;simp[hm,hk,hv]at h;simp only[hm,hk,hv]at h;obtain⟨va,a1,a2⟩:=fI ht hm;obtain⟨vb,b1,b2⟩:=fI ht hk;obtain⟨vc,c1,c2⟩:=fI ht hv;obtain⟨w,y,h1,h2,h3,h4⟩:=qxq hx h a2 b2 c2;exact fin rfl rfl (by simp only[qS,a1,b1,c1,h1]) h2 h3 h4
 |call c=>
  simp only at h;obtain⟨callee,args,ats⟩:=c;cases callee with
  |builtin b=>
   have two:∀{us:Z U}{a b:U},lP tm args.toList=some us->us=[a,b]->∃va vb,jP tv args.toList=some [va,vb]/\aB x a va/\aB x b vb:=fun{us a b} h1 h2=>by subst h2;obtain⟨vs,a1,a2⟩:=MH ht h1;obtain⟨va,pL,rfl,r1,r2⟩:=a2.inv;obtain⟨vb,vs'',rfl,r3,r4⟩:=r2.inv;rw[r4.nil_inv]at a1;exact⟨va,vb,a1,r1,r3⟩
   cases b with
   |append=>simp only at h;split at h;rename_i a b t xt h1 h2;obtain⟨va,vb,e1,r1,r2⟩:=two h1 rfl;obtain⟨w,y,q1,q2,q3,q4⟩:=qrb hx h r1 r2;exact fin (by simp only[gT]) (by simp only[mL]) (by simp only[qS,e1,h2,q1]) q2 q3 q4;cases h
   |copy=>simp only at h;split at h;rename_i a b t ts h1 h2;obtain⟨va,vb,e1,r1,r2⟩:=two h1 rfl;obtain⟨w,y,q1,q2,q3,q4⟩:=z2f hx h r1 r2;exact fin (by simp only[gT]) (by simp only[mL]) (by simp only[qS,e1,h2,q1]) q2 q3 q4;cases h
   |delete=>simp only at h;split at h;rename_i a b t ts h1 h2;obtain⟨va,vb,e1,r1,r2⟩:=two h1 rfl;obtain⟨w,y,q1,q2,q3,q4⟩:=z71 hx h r1 r2;exact fin (by simp only[gT]) (by simp only[mL]) (by simp only[qS,e1,h2,q1]) q2 q3 q4;cases h
   |clear=>simp only at h;split at h;rename_i a t ts h1 h2;obtain⟨vs,a1,a2⟩:=MH ht h1;obtain⟨va,pL,rfl,r1,r2⟩:=a2.inv;rw[r2.nil_inv]at a1;obtain⟨w,y,q1,q2,q3,q4⟩:=qxh hx h r1;exact fin (by simp only[gT]) (by simp only[mL]) (by simp only[qS,a1,h2,q1]) q2 q3 q4;cases h
   |_=>simp at h
  |_=>simp at h
 |_=>simp at h
def Y1{tm:Z U}{tv:Z A}(ht:aX x tm tv){op:Op}{u:U}(h:bF T x.X tm op=some (u,X')):o4 T x tv op u X':=by
 unfold bF at h;cases h1:gW T x.X tm op with
 |some v=>simp only[h1,zA,zB]at h;obtain⟨rfl,rfl⟩:=h;exact z3s hx ht h1
 |none=>simp only[h1]at h;rcases h2:oY T x.X tm op with _|v;simp only[h2]at h;exact z72 hx ht h;simp only[h2,zA,zB]at h;obtain⟨rfl,rfl⟩:=h;exact qut hx ht h2
omit hx in
def z1x{tm:Z U}{tv:Z A}(ht:aX x tm tv){op:Op}{f:FuncId}{args:Z U}(h:jG T tm op=some (f,args)):∃vs,callOf T tv op=some (f,vs)/\aX x args vs:=by
 unfold jG at h;cases op with
 |call c=>
  simp only at h;obtain⟨callee,a7,ats⟩:=c;cases callee with
  |value o=>
   simp only at h;rcases ho:bS tm o with _|a;simp[ho]at h;obtain⟨va,a1,a2⟩:=fI ht ho;cases a with
   |fn fn first cap=>
    cases fn with
    |func g=>simp only[ho]at h;simp only[aB]at a2;obtain⟨p,q,rfl,r1,r2,r3,r4⟩:=a2;rcases hg:T.fn g with _|fd;simp[hg]at h;simp only[hg]at h;rcases fU:fd.body.isSome with _|_;simp[fU]at h;simp only[fU,zC]at h;rcases hl:lP tm a7.toList with _|us;simp[hl]at h;simp only[hl,zA,zB]at h;obtain⟨rfl,rfl⟩:=h;obtain⟨vs,e1,e2⟩:=MH ht hl;exact⟨p++vs++q,by simp only[callOf,a1,hg,fU,zC,e1],((show aX x first p from⟨r1,r2⟩).append e2).append ⟨r3,r4⟩⟩
    |_=>simp[ho]at h
   |_=>simp[ho]at h
  |_=>simp at h
 |_=>simp at h
end
end Go.Vx
