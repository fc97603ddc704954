import Derived.Test.YtldlchbgolpkaaaGreatP5
set_option linter.all false
namespace Go.Vx
open Go Go.Rx
variable{n:Nat}
theorem Jq{b:Nat}(h1:n*b<=140737488355328)(h2:n<=140737488355328):w8 n b=true:=by
 simp[w8,Nat.ble_eq_true_of_le h1,Nat.ble_eq_true_of_le h2]
variable{e:TypeId}
theorem gl{s:S}{i off:Nat}{l:List Value}{md:Nat}(hl:lk s.h i=some (.inl (l,e,md)))(h:off+n<=l.length):o8 s (some ⟨i,off,none⟩) n=some ((l.drop off).take n):=by
 cases n with|zero=>simp[o8]|succ n=>simp only[o8,hl];exact Il h
theorem qmo(s:S)(b:Option Addr):o8 s b 0=some []:=rfl
section
variable{T:Tb}{x:Cx}(hx:jZ x)
include hx
variable{sz:Nat}
variable{k:Nat}
variable{new:List U}
theorem Wn(dS:0<sz){u:U}{v:Value}(h:uI x.O sz u=some (k,new))(hr:aD x u v):∃b c vs,w9 v=.slice b k c/\(v=.slice b k c\/k=0/\b=none/\c=0/\new=[]/\∃r,v=.chan (some r))/\o8 x.s b (k*sz)=some vs/\bB x new vs/\okL new=true:=by
 unfold uI at h;cases u with
 |nils=>simp only[zA,zB]at h;obtain⟨rfl,rfl⟩:=h;simp only[aD]at hr;subst hr;exact⟨none,0,[],rfl,.inl rfl,by rw[Nat.zero_mul];rfl,bB.nil x,rfl⟩
 |isl t l=>simp only at h;split at h;rename_i cH;simp only[zA,zB]at h;obtain⟨rfl,rfl⟩:=h;simp only[aD]at hr;rcases hr with⟨rfl,rfl |⟨r,rfl⟩⟩|⟨i,off,c,rfl,_,dX⟩;exact⟨none,0,[],rfl,.inl rfl,by rw[zS,Nat.zero_mul];rfl,bB.nil x,rfl⟩;exact⟨none,0,[],rfl,.inr ⟨rfl,rfl,rfl,rfl,r,rfl⟩,by rw[zS,Nat.zero_mul];rfl,bB.nil x,rfl⟩;by_cases cW:l=[];subst cW;exact⟨_,c,[],rfl,.inl rfl,by rw[zS,Nat.zero_mul];rfl,bB.nil x,rfl⟩;rcases dX with dX |⟨row,e,hZ,g1,g2,g3⟩;exact absurd dX cW;have:=i? g2 cW cH;subst this;obtain⟨f1,f2⟩:=qt8 g2;have aU:=Xa g2;rw[List.length_drop]at aU;have:0<l.length*hZ:=Nat.mul_pos (by cases l<;>simp_all) dS;exact⟨_,c,_,rfl,.inl rfl,gl g1 (by omega),f1,f2⟩;cases h
 |sl k' off n c=>simp only at h;rcases dX:rowOf x.O k' with _|l;simp[dX]at h;simp only[dX]at h;rcases hs:jX l off (n*sz)with _|cs;simp[hs]at h;simp only[hs,zA,zB]at h;obtain⟨rfl,rfl⟩:=h;obtain⟨e,hg,hl⟩:=py dX;obtain⟨i,hi,rfl,_⟩:=LG hl hr;obtain⟨_,k1,i',lv,e1,e2,e3⟩:=hx.ok k' _ hg;rw[hi]at e1;cases e1;obtain⟨s1,s2⟩:=d? hs e3;obtain⟨q1,rfl⟩:=PO hs;exact⟨_,c,_,rfl,.inl rfl,gl e2 (by rw[<-e3.2];exact q1),Jb s2,by rw[Bj];exact LI (EL k1 _) _⟩
 |vl k' st off n=>simp only at h;rcases hv:xJ x.O k' st with _|q;simp[hv]at h;obtain⟨l,e,hZ⟩:=q;obtain⟨hg,hl⟩:=Xt hv;simp only[hv,beq_eq]at h;by_cases hz:hZ=sz;subst hz;simp only[yC,zC]at h;rcases hs:jX l (off*hZ) (n*hZ)with _|cs;simp[hs]at h;simp only[hs,zA,zB]at h;obtain⟨rfl,rfl⟩:=h;obtain⟨q1,rfl⟩:=PO hs;by_cases hn:n=0;subst hn;obtain⟨_,_,_,_,sZ⟩:=V4 hl hr;obtain⟨b,c,rfl⟩:=vn sZ;exact⟨b,c,[],rfl,.inl rfl,by rw[Nat.zero_mul];rfl,by simpa using bB.nil x,by simp[okL]⟩;obtain⟨i,l0,e0,Hu,l',h1,h2,rfl,h4,h5,h6,h7⟩:=uh hx hl hr (by omega);have:=hg.symm.trans h1;cases this;obtain⟨s1,s2⟩:=d? hs h5;exact⟨_,_,_,rfl,.inl rfl,gl h4 (by rw[<-h5.2];exact q1),s2,LI (EL h7 _) _⟩;simp[hz]at h
 |_=>simp at h
omit hx in
theorem Xv{l:List U}{e:TypeId}{sz N:Nat}{c:lB}:aD ⟨lM x.Y x.O.nx (some x.s.nx),newU x.O (.vec l e sz 0),⟨(x.s.nx,c)::x.s.h,x.s.nx+1⟩⟩ (.vl x.O.nx 0 0 N) (.slice (some ⟨x.s.nx,0,none⟩) N bS):=by
 simp only[aD];refine⟨rfl,by simp[newU],fun b hb=>?_⟩;simp only[newU,lG,if_true,zA]at hb;subst hb;exact⟨zF _,fun _=>⟨l,e,sz,rfl,by simp[lM,IR]⟩⟩
omit hx in
theorem gu{e:TypeId}{sz:Nat}{o:Option Addr}(ho:∀a,o=some a->a.spot=none):aD ⟨lM x.Y x.O.nx none,newU x.O (.vec [] e sz 0),x.s⟩ (.vl x.O.nx 0 0 0) (.slice o 0 0):=by
 simp only[aD];refine⟨rfl,by simp[newU],fun b hb=>?_⟩;simp only[newU,lG,if_true,zA]at hb;subst hb;exact⟨zF _,fun _=>⟨[],e,sz,rfl,by simpa[lM,IR]using ho⟩⟩
variable{t:TypeId}
variable{xt:TypeId}
theorem qmj{e2:TypeId}{by_:Nat}{z:Value}(hd:T.und t=some (.slice e))(d6:T.und xt=some (.slice e2))(hi:T.inf e=some (sz+1,by_,z))(hz:Nat.beq z.cells.toList.length (sz+1)=true)
  {o:Option Addr} (ho:∀a,o=some a->a.spot=none) {b:Option Addr} {c:Nat} {vs:List Value} (hc:o8 x.s b (k*(sz+1))=some vs) (hr:bB x new vs) (hk:okL new=true) (aU:new.length=k*(sz+1)) (bI:k*by_<=140737488355328/\k<=140737488355328):
  ∃v y,tW T x.s t xt (.slice o 0 0) (.slice b k c)=some (v,y.s)/\y.O=newU x.O (.vec new e (sz+1) 0)/\aD y (.vl x.O.nx 0 0 k) v/\Out x y:=by
 cases k with|zero=>have:new=[]:=List.eq_nil_of_length_eq_zero (by rw[aU];simp);subst this;rw[hr.nil_inv]at hc;refine⟨.slice o 0 0,⟨lM x.Y x.O.nx none,newU x.O (.vec [] e (sz+1) 0),x.s⟩,?_,rfl,gu ho,Xn hx e (sz+1) (by omega)⟩;simp only[tW,xX,w9,zD,vL,hd,d6,hi,hc,qM,zC,DO];rfl|succ k=>refine⟨.slice (some ⟨x.s.nx,0,none⟩) (k+1) bS,_,?_,rfl,Xv,Xz hx hr hk e (by omega)⟩;simp only[tW,xX,w9,zD,vL,hd,d6,hi,hc,PQ hr hk,zC,UP,DO,show Nat.ble (k+1) 0=false from rfl,zD,Nat.zero_mul,qmo,hz,Nat.zero_add,Jq bI.1 bI.2,List.nil_append,Rx.newRow]
theorem bf{e2:TypeId}{by_:Nat}{z:Value}(hd:T.und t=some (.slice e))(d6:T.und xt=some (.slice e2))(hi:T.inf e=some (sz+1,by_,z))(hz:Nat.beq z.cells.toList.length (sz+1)=true)
  {o:Option Addr} {cp:Nat} {old:List U} {ov:List Value} (Rl:cp<bS) (mN:o8 x.s o (n*(sz+1))=some ov) (hor:bB x old ov) (EW:okL old=true) {b:Option Addr} {c:Nat} {vs:List Value} (hc:o8 x.s b (k*(sz+1))=some vs) (hr:bB x new vs) (hk:okL new=true)
  (MZ:0<k) (BG:cp<n+k) (bI:(n+k)*by_<=140737488355328/\n+k<=140737488355328):
  ∃v y,tW T x.s t xt (.slice o n cp) (.slice b k c)=some (v,y.s)/\y.O=newU x.O (.vec (old++new) e (sz+1) 0)/\aD y (.vl x.O.nx 0 0 (n+k)) v/\Out x y/\∃b n c,v=.slice (some b) n c:=by
 cases k with
 |zero=>omega|succ k=>
  refine⟨.slice (some ⟨x.s.nx,0,none⟩) (n+(k+1)) bS,_,?_,rfl,Xv,Xz hx (hor.append hr) (G8 EW hk) e (by omega),_,_,_,rfl⟩;have h1:Nat.ble (n+(k+1)) cp=false:=by rcases h:Nat.ble (n+(k+1)) cp with _|_;rfl;have:=zY h;omega
  simp only[tW,xX,w9,zD,vL,hd,d6,hi,hc,PQ hr hk,zC,UP,pN Rl,h1,zD,mN,hz,Jq bI.1 bI.2,Rx.newRow]
theorem Cd{K:Nat}{l l1:List U}{st:Nat}(hg:gt x.O.h K=some (.vec l e sz st))(o:Option Nat)(s':S)(wK:∀i b,lk x.s.h i=some b->x.Y K≠some i->lk s'.h i=some b)(rA:∀i,o=some i->x.Y K=some i\/x.s.nx<=i)
  (gN:∀i b,lk s'.h i=some b->i<s'.nx) (hk:okL l1=true) (hB:∀y:Cx,y.s=s'->Mo x.O.nx x y->l1=[]/\o=none\/∃i l',o=some i/\lk s'.h i=some (.inl (l',e,sz+2))/\bB y l1 l'):
  Out x ⟨lM x.Y K o,⟨ug x.O.h K (.vec l1 e sz (st+1)),x.O.nx⟩,s'⟩:=by
 have dS:0<sz:=(hx.ok K _ hg).2.2.1;refine step1 hx K (.vec l1 e sz (st+1)) (zF _) (hx.ok K _ hg).1 (fun k hk=>⟨by simp[OU,Ne.symm hk],ly _ _ hk⟩) (by simp[OU,hg]) (.inl ⟨_,hg,Nat.le_succ _,fun h=>by simp[B.st]at h⟩) (fun i b hb cW=>wK i b hb (cW _ hg)) (fun i hi=>?_) gN (fun hm=>⟨hk,dS,?_⟩);change lM _ _ _ _=some i at hi;rw[sw]at hi;rcases rA i hi with h |h;exact .inl ⟨_,hg,h⟩;exact .inr h;rcases hB _ rfl hm with⟨h1,h2⟩|⟨i,l',h1,h2,h3⟩;exact .inl ⟨h1,by simp[lM,h2]⟩;exact .inr ⟨i,l',by simp[lM,h1],h2,h3⟩
omit hx in
theorem Bw{K:Nat}{l l1:List U}{e:TypeId}{sz st N:Nat}(hx:jZ x)(hg:gt x.O.h K=some (.vec l e sz st)){o:Option Nat}{s':S}{v:Value}(h1:v.oneCell'=true)(h:IR 0 N v sz o):
  aD ⟨lM x.Y K o,⟨ug x.O.h K (.vec l1 e sz (st+1)),x.O.nx⟩,s'⟩ (.vl K (st+1) 0 N) v:=by
 simp only[aD];refine⟨h1,(hx.ok K _ hg).1,fun b hb=>?_⟩;simp only[OU,if_true,hg,zM,zA]at hb;subst hb;exact⟨zF _,fun _=>⟨l1,e,sz,rfl,by simpa[lM]using h⟩⟩
omit hx in
theorem b?{sz:Nat}{u:U}{k:Nat}{new:List U}(h:uI x.O sz u=some (k,new)):new.length=k*sz:=by
 unfold uI at h;cases u with
 |nils=>simp only[zA,zB]at h;obtain⟨rfl,rfl⟩:=h;simp
 |isl t l=>
  simp only at h;split at h;rename_i cH;simp only[zA,zB]at h;obtain⟨rfl,rfl⟩:=h;have:=L_ cH;clear cH;induction l with
  |nil=>simp|cons c l ih=>have h1:=this c (by simp);have h2:=ih fun d hd=>this d (by simp[hd]);simp only[List.flatten_cons,zU,zO,Nat.succ_mul,h2,h1];omega
  cases h
 |sl k' off n c=>simp only at h;rcases dX:rowOf x.O k' with _|l;simp[dX]at h;simp only[dX]at h;rcases hs:jX l off (n*sz)with _|cs;simp[hs]at h;simp only[hs,zA,zB]at h;obtain⟨rfl,rfl⟩:=h;obtain⟨q1,rfl⟩:=PO hs;rw[Wj];simp;omega
 |vl k' st off n=>simp only at h;rcases hv:xJ x.O k' st with _|q;simp[hv]at h;obtain⟨l,e,hZ⟩:=q;simp only[hv,beq_eq]at h;by_cases hz:hZ=sz;simp only[hz,yC,zC]at h;rcases hs:jX l (off*sz) (n*sz)with _|cs;simp[hs]at h;simp only[hs,zA,zB]at h;obtain⟨rfl,rfl⟩:=h;obtain⟨q1,rfl⟩:=PO hs;simp;omega;simp[hz]at h
 |_=>simp at h
theorem qxb{a b r:U}{va vb:Value}{O':Sg}(h:JG T x.O t xt a b=some (r,O'))(ha:aD x a va)(hb:aD x b vb):∃v y,tW T x.s t xt va vb=some (v,y.s)/\y.O=O'/\aD y r v/\Out x y:=by
 unfold JG at h;rcases hd:T.und t with _|d;simp[hd]at h;cases d with
 |slice e=>
  rcases d6:T.und xt with _|d2;simp[hd,d6]at h;cases d2 with
  |slice e2=>
   simp only[hd,d6]at h;rcases hi:T.inf e with _|q;simp[hi]at h;obtain⟨sz,by_,z⟩:=q;cases sz with
   |zero=>simp[hi]at h|succ sz=>
    simp only[hi]at h;rcases hz:Nat.beq z.cells.toList.length (sz+1)with _|_;simp only[hz,zD]at h;cases h;simp only[hz,zC]at h;rcases qQ:uI x.O (sz+1) b with _|q;simp[qQ]at h;obtain⟨k,new⟩:=q;simp only[qQ]at h;have aU:=b? qQ;obtain⟨bb,c,vs,DA,_,hc,hr,hk⟩:=Wn hx (by omega) qQ hb;have fq:∀va',tW T x.s t xt va' vb=tW T x.s t xt va' (.slice bb k c):=fun va'=>by unfold tW;rw[DA];simp only[w9,xX,zD]
    rw[fq];cases a with
    |nils=>simp only at h;split at h;rename_i bI;simp only[zA,zB]at h;obtain⟨rfl,rfl⟩:=h;simp only[aD]at ha;subst ha;exact qmj hx hd d6 hi hz (by simp) hc hr hk aU bI;cases h
    |isl tt l=>
     rcases tt with _|_;simp at h;simp only at h;split at h
     ·rename_i bI;obtain⟨r1,r2,r3,r4⟩:=bI;simp only[zA,zB]at h;obtain⟨rfl,rfl⟩:=h;obtain⟨o,c0,ov,_,e1,e2,e3,e4⟩:=Wn hx (sz:=sz+1) (by omega) (u:=.isl true l) (k:=l.length) (new:=l.flatten) (by simp only[uI,r4,if_true]) ha;rcases e1 with e1 |⟨el,rfl,rfl,enew,rr,rfl⟩
      case inr=>
       have hln:l=[]:=List.eq_nil_of_length_eq_zero el;subst hln;obtain⟨v,y,h1,h2,h3,h4,b1,n1,c1,hv⟩:=bf (T:=T) hx hd d6 hi hz (n:=0) (cp:=0) (o:=none) (old:=[]) (ov:=[]) (by simp[bS]) (by rw[Nat.zero_mul];rfl) (bB.nil x) rfl hc hr hk r3 (by omega) ⟨by simpa using r1,by simpa using r2⟩;have h0:vL T x.s t xt (.slice none 0 0) (.slice bb k c)=some (v,y.s):=by simpa only[tW,xX,w9,zD]using h1
       refine⟨v,y,?_,by simpa using h2,by simpa using h3,h4⟩;simp only[tW,xX,w9,zC,zD,h0,hv]
      subst e1;have DD:c0=l.length/\c0<bS:=by simp only[aD]at ha;rcases ha with⟨rfl,h1 |⟨_,h1⟩⟩|⟨i,off,c1,h1,h2,_⟩;cases h1;simp[bS];cases h1;cases h1;exact h2 trivial
      obtain⟨v,y,h1,h2,h3,h4,_⟩:=bf hx hd d6 hi hz DD.2 e2 e3 e4 hc hr hk r3 (by omega) ⟨r1,r2⟩;exact⟨v,y,h1,h2,h3,h4⟩
     cases h
    |sl k' off n cp=>
     simp only at h;rcases dX:rowOf x.O k' with _|l;simp[dX]at h;simp only[dX]at h;rcases hs:jX l off (n*(sz+1))with _|old;simp[hs]at h;simp only[hs]at h;obtain⟨e',hg,hl⟩:=py dX;obtain⟨i,lP,tw,Rl,_⟩:=LG hl ha;split at h;rename_i h0;obtain⟨rfl,rfl⟩:=h0;split at h;rename_i bI;simp only[zA,zB]at h;obtain⟨rfl,rfl⟩:=h;subst tw;exact qmj hx hd d6 hi hz (by simp) hc hr hk aU bI;cases h;split at h;rename_i BG;split at h;rename_i bI;obtain⟨r1,r2,r3⟩:=bI;simp only[zA,zB]at h;obtain⟨rfl,rfl⟩:=h;obtain⟨o,c0,ov,_,e1,e2,e3,e4⟩:=Wn hx (sz:=sz+1) (by omega) (u:=.sl k' off n cp) (k:=n) (new:=pU old) (by simp only[uI,dX,hs]) ha;have:o=some ⟨i,off,none⟩/\c0=cp:=by rw[tw]at e1;rcases e1 with e1 |⟨_,_,_,_,_,e1⟩;cases e1;exact⟨rfl,rfl⟩;cases e1
     obtain⟨rfl,rfl⟩:=this;rw[tw];obtain⟨v,y,h1,h2,h3,h4,_⟩:=bf hx hd d6 hi hz Rl e2 e3 e4 hc hr hk r3 BG ⟨r1,r2⟩;exact⟨v,y,h1,h2,h3,h4⟩;cases h;cases h
    |vl K st off n=>
     simp only at h;rcases hg:gt x.O.h K with _|b0;simp[hg]at h;cases b0 with
     |vec l e' hZ cT=>
      simp only[hg,beq_eq]at h;by_cases c8:cT=st;by_cases he:e'=e;by_cases dS:hZ=sz+1;subst c8;subst he;subst dS;simp only[yC,zC]at h;rcases hs:jX l (off*(sz+1)) (n*(sz+1))with _|p;simp[hs]at h;simp only[hs]at h;split at h;rename_i bI;obtain⟨r1,r2,r3⟩:=bI;simp only[zA,zB]at h;obtain⟨rfl,rfl⟩:=h;obtain⟨l0,e0,Hu,N7,sZ⟩:=V4 (x:=x) (by simp[c7,hg,B.st]) ha;have:=hg.symm.trans N7;cases this;obtain⟨_,k1,k2,h3⟩:=hx.ok K _ hg;obtain⟨q1,rfl⟩:=PO hs;rcases h3 with⟨rfl,jP⟩|⟨i,l',e1,e2,e3⟩;rw[jP]at sZ;obtain⟨rfl,rfl,o,rfl,ho⟩:=sZ;cases k with
      |zero=>have:new=[]:=List.eq_nil_of_length_eq_zero (by rw[aU];simp);subst this;rw[hr.nil_inv]at hc;refine⟨.slice o 0 0,⟨lM x.Y K none,⟨ug x.O.h K (.vec [] e' (sz+1) (cT+1)),x.O.nx⟩,x.s⟩,?_,by simp,Bw hx hg rfl ⟨rfl,rfl,o,rfl,ho⟩,Cd hx hg none x.s (fun i b hb _=>hb) (by simp) hx.bd rfl (fun y _ _=>.inl ⟨rfl,rfl⟩)⟩;simp only[tW,xX,w9,zD,vL,hd,d6,hi,hc,qM,zC,DO];rfl|succ k=>
       refine⟨.slice (some ⟨x.s.nx,0,none⟩) (0+(k+1)) bS,⟨lM x.Y K (some x.s.nx),⟨ug x.O.h K (.vec new e' (sz+1) (cT+1)),x.O.nx⟩,Rx.newRow x.s vs e' (sz+1+2)⟩,?_,by simp,Bw hx hg rfl (.inr (by simp)),Cd hx hg (some x.s.nx) _ (fun i b hb _=>?_) (fun i hi=>.inr (by cases hi;exact zF _)) (fun i b hb=>?_) hk (fun y hy hm=>.inr ⟨x.s.nx,vs,rfl,?_,hm.ke.E hr.bel hr⟩)⟩;have h1:Nat.ble (0+(k+1)) 0=false:=by rcases h:Nat.ble (0+(k+1)) 0 with _|_;rfl;have:=zY h;omega
       simp only[tW,xX,w9,zD,vL,hd,d6,hi,hc,PQ hr hk,zC,UP,DO,h1,zD,Nat.zero_mul,qmo,hz,Jq r1 r2,List.nil_append];have:=hx.bd i b hb;simp[Rx.newRow,m5,show x.s.nx≠i by omega,hb];simp only[Rx.newRow,m5]at hb ⊢;split at hb;omega;exact Nat.lt_succ_of_lt (hx.bd i b hb);simp[Rx.newRow,m5]
      rw[e1]at sZ;rcases sZ with⟨h0,rfl,_⟩|rfl;omega;have wL:cM x.s i=some (l',e',sz+1+2):=by simp[cM,e2]
      have hcc:Nat.blt (bS+off) bS=false:=JF (by omega);have y5:bN (bS+off)=off:=by simp[bN]
      have Px:v8 l' (off*(sz+1)) (n*(sz+1))=some ((l'.drop (off*(sz+1))).take (n*(sz+1))):=Il (by rw[<-e3.2];exact q1);have dN:Nat.beq (off*(sz+1)) (off*(sz+1))=true:=by simp
      cases k with
      |zero=>
       have:new=[]:=List.eq_nil_of_length_eq_zero (by rw[aU];simp);subst this;rw[hr.nil_inv]at hc;have h0:off=0/\n*(sz+1)=l.length:=by omega
       obtain⟨rfl,BG⟩:=h0;have hp:(l.drop (0*(sz+1))).take (n*(sz+1))++[]=l:=by simp[BG]
       rw[hp];refine⟨.slice (some ⟨i,0*(sz+1),none⟩) n (bS+0),⟨lM x.Y K (some i),⟨ug x.O.h K (.vec l e' (sz+1) (cT+1)),x.O.nx⟩,x.s⟩,?_,by simp,Bw hx hg rfl (.inr rfl),Cd hx hg (some i) x.s (fun i b hb _=>hb) (fun j hj=>.inl (by cases hj;exact e1)) hx.bd k1 (fun y _ hm=>.inr ⟨i,l',rfl,e2,hm.ke.E e3.bel e3⟩)⟩;simp only[tW,xX,w9,zD,vL,hd,d6,hi,hc,qM,zC,hcc,zD,wL,Nat.beq_refl,y5,Px]
      |succ k=>have zP:bB x ((l.drop (off*(sz+1))).take (n*(sz+1))++new) ((l'.drop (off*(sz+1))).take (n*(sz+1))++vs):=((e3.drop _).take _).append hr;have hpk:=G8 (LI (EL k1 (off*(sz+1))) (n*(sz+1))) hk;refine⟨.slice (some ⟨x.s.nx,0,none⟩) (n+(k+1)) bS,⟨lM x.Y K (some x.s.nx),⟨ug x.O.h K (.vec ((l.drop (off*(sz+1))).take (n*(sz+1))++new) e' (sz+1) (cT+1)),x.O.nx⟩,⟨(x.s.nx,.inl ((l'.drop (off*(sz+1))).take (n*(sz+1))++vs,e',sz+1+2))::rm x.s.h i,x.s.nx+1⟩⟩,?_,rfl,Bw hx hg rfl (.inr (by simp)),Cd hx hg (some x.s.nx) _ (fun j b hb cW=>?_) (fun i hi=>.inr (by cases hi;exact zF _)) (fun j b hb=>?_) hpk (fun y hy hm=>.inr ⟨x.s.nx,_,rfl,?_,hm.ke.E zP.bel zP⟩)⟩;simp only[tW,xX,w9,zD,vL,hd,d6,hi,hc,PQ hr hk,zC,UP,hcc,zD,wL,Nat.beq_refl,y5,Px,hz,Jq r1 r2];have:=hx.bd j b hb;have mO:i≠j:=fun h=>cW (by rw[e1,h]);simp[m5,Ux,show x.s.nx≠j by omega,mO,hb];simp only[m5,Ux]at hb ⊢;split at hb;omega;split at hb;cases hb;exact Nat.lt_succ_of_lt (hx.bd j b hb);simp[m5]
      cases h;simp[c8,he,dS]at h;simp[c8,he]at h;simp[c8]at h
     |_=>simp[hg]at h
    |_=>simp at h
  |_=>simp[hd,d6]at h
 |_=>simp[hd]at h
end
theorem z79(es:List ME)(i:Nat)(f:ME->ME):FD es i f=es.modify i f:=by
 induction es generalizing i with|nil=>simp[FD]|cons e es ih=>cases i<;>simp[FD,ih]
theorem qz5(es:List ME)(i:Nat):Br es i=es.eraseIdx i:=by
 induction es generalizing i with|nil=>simp[Br]|cons e es ih=>cases i<;>simp[Br,ih]
variable{x:Cx}
variable{es:List ME}
variable{vs:List MapEntry}
variable{k:U}
variable{v:U}
variable{kv:Value}
variable{vv:Value}
theorem rZ.snoc(h:rZ x es vs)(hk:aD x k kv)(hv:aD x v vv)(b:Nat):rZ x (es++[⟨k,v,b⟩]) (vs++[⟨kv,vv,b⟩]):=by
 refine⟨by simp[h.1],fun i e he=>?_⟩;rw[List.getElem?_append]at he ⊢;rw[<-h.1];split at he;rename_i aG;simp only[aG,if_true];exact h.2 i e he;rename_i aG;simp only[aG,if_false];cases hj:i-es.length with
 |zero=>simp[hj]at he;subst he;exact⟨⟨kv,vv,b⟩,by simp,hk,hv,rfl⟩|succ j=>simp[hj]at he
theorem rZ.mod(h:rZ x es vs)(j:Nat)(hv:aD x v vv):rZ x (FD es j fun e=>{ e with val:=v }) (KI vs j fun e=>{ e with val:=vv }):=by
 rw[z79,ml];refine⟨by simp[h.1],fun i e he=>?_⟩;rw[List.getElem?_modify]at he ⊢;rcases hi:es[i]? with _|e0;simp[hi]at he;obtain⟨v0,q1,q2,q3,q4⟩:=h.2 i e0 hi;rw[hi]at he;simp only[Option.map_eq_map,zM,zA]at he;rw[q1];by_cases Fl:j=i;simp only[Fl,if_true]at he ⊢;subst he;exact⟨_,rfl,q2,hv,q4⟩;simp only[Fl,if_false]at he ⊢;subst he;exact⟨_,rfl,q2,q3,q4⟩
theorem rZ.erase(h:rZ x es vs)(j:Nat):rZ x (Br es j) (UX vs j):=by
 rw[qz5,qrx];refine⟨by simp[List.length_eraseIdx,h.1],fun i e he=>?_⟩;rw[List.getElem?_eraseIdx]at he ⊢;split at he;rename_i aG;simp only[aG,if_true];exact h.2 i e he;rename_i aG;simp only[aG,if_false];exact h.2 _ e he
theorem rZ.mono{y:Cx}(hm:Mo x.O.nx x y)(h:rZ x es vs):rZ y es vs:=⟨h.1,fun j e he=>by
  obtain⟨v,q1,q2,q3,q4⟩:=h.2 j e he;exact⟨v,q1,hm.ke _ _ (aD.bel _ _ q2) q2,hm.ke _ _ (aD.bel _ _ q3) q3,q4⟩⟩
theorem qv9{x:Cx}{b:Int}: ∀{es:List ME}{vs:List MapEntry}(i:Nat),rZ x es vs->Ig b es i=OW b vs i
  | [], vs, i, h => by have : vs = [] := by have := h.1; simpa using this.symm
                       subst this;rfl
  |e::es,[],i,h=> by have:=h.1;simp at this
  |e::es,v::vs,i,h=> by obtain⟨v0,q0,q1,q2,q3⟩:=h.2 0 e rfl;simp at q0;subst q0;have h':rZ x es vs:=⟨by have:=h.1;simpa using this,fun j d hd=> by simpa using h.2 (j+1) d (by simpa using hd)⟩;simp only[Ig,OW,q3,qv9 (i+1) h']
section
variable{T:Tb}{x:Cx}(hx:jZ x)
include hx
variable{m:U}
variable{mv:Value}
theorem Vu{m:U}{r:Nat}{cl:Nat}(hm:aD x (.map r) mv)(hg:gt x.O.h r=some (.map es cl)):∃i es',x.Y r=some i/\mv=.map (some i)/\lk x.s.h i=some (.inr (es',cl))/\rZ x es es'/\AV x.s i=some (es',cl):=by
 obtain⟨i,hi,rfl⟩:=Xd (x:=x) (by simp[c7,hg,B.st]) hm;obtain⟨_,i',es',e1,e2,e3⟩:=hx.ok r _ hg;rw[hi]at e1;cases e1;exact⟨i,es',hi,rfl,e2,e3,by simp[AV,e2]⟩
theorem V3{r i:Nat}{es1:List ME}{es' ZI:List MapEntry}{cl cl1:Nat}(hg:gt x.O.h r=some (.map es cl))(hi:x.Y r=some i)(hl:lk x.s.h i=some (.inr (es',cl)))(hr:rZ x es1 ZI):
  Out x ⟨x.Y,LF x.O r es1 cl1,L6 x.s i ZI cl1⟩:=
 Ce hx hg hi hl rfl (by simp) fun y h1 h2 hm=>⟨i,ZI,h1,h2,hr.mono hm⟩
variable{t:TypeId}
variable{r:U}
variable{O':Sg}
theorem qsn(h:Ip T x.O t m k v=some (r,O'))(hm:aD x m mv)(hk:aD x k kv)(hv:aD x v vv):∃rv y,UU T x.s t mv kv vv=some (rv,y.s)/\y.O=O'/\aD y r rv/\Out x y:=by
 unfold Ip at h;rcases hd:T.und t with _|d;simp[hd]at h;cases d with
 |map kt et=>
  cases m with
  |map q=>
   simp only[hd]at h;rcases hkv:toV k with _|kv0;simp[hkv]at h;simp only[hkv]at h;have e0:=(xT _ _ hkv x kv).1 hk;subst e0;rcases h1:o6 T 50 kt kv with _|_;simp[h1]at h;rcases h2:plain kv with _|_;simp[h1,h2]at h;simp only[h1,h2,zC]at h;rcases hg:gt x.O.h q with _|b;simp[hg]at h;cases b with
   |map es cl=>simp only[hg]at h;obtain⟨i,es',hi,rfl,hl,hr,ho⟩:=Vu hx (m:=.map q) hm hg;rcases hf:yN T kt kv es 0 with _|f;simp[hf]at h;rcases Jz 0 hr hf with⟨rfl,f1⟩|⟨j,u,w,rfl,f1,f2,f3,d,d',f4,f5,f6,f7,f8,f9⟩;simp only[hf,zA,zB]at h;obtain⟨rfl,rfl⟩:=h;exact⟨undef,_,by simp only[UU,hd,h1,h2,zC,ho,f1],rfl,by simp[aD],V3 hx hg hi hl (hr.snoc hk hv cl)⟩;simp only[Nat.sub_zero]at f4 f6;simp only[hf,iQ,f4]at h;rcases eS:toV d.key with _|kv';simp[eS]at h;simp only[eS]at h;have e1:=(xT _ _ eS x d'.key).1 f7;rcases hveq:xF 50 kv' kv with _|_;simp[hveq]at h;simp only[hveq,zC,zA,zB]at h;obtain⟨rfl,rfl⟩:=h;exact⟨undef,_,by simp only[UU,hd,h1,h2,zC,ho,f1,iQ,f6,e1,hveq],rfl,by simp[aD],V3 hx hg hi hl (hr.mod j hv)⟩
   |_=>simp[hg]at h
  |_=>simp[hd]at h
 |_=>simp[hd]at h
theorem qxr(h:mp T x.O t m k=some (r,O'))(hm:aD x m mv)(hk:aD x k kv):∃rv y,Bz T x.s t mv kv=some (rv,y.s)/\y.O=O'/\aD y r rv/\Out x y:=by
 unfold mp at h;rcases hd:T.und t with _|d;simp[hd]at h;cases d with
 |map kt et=>
  cases m with
  |map q=>
   simp only[hd]at h;rcases hkv:toV k with _|kv0;simp[hkv]at h;simp only[hkv]at h;have e0:=(xT _ _ hkv x kv).1 hk;subst e0;rcases h1:o6 T 50 kt kv with _|_;simp[h1]at h;rcases h2:plain kv with _|_;simp[h1,h2]at h;simp only[h1,h2,zC]at h;rcases hg:gt x.O.h q with _|b;simp[hg]at h;cases b with
   |map es cl=>
    simp only[hg]at h;obtain⟨i,es',hi,rfl,hl,hr,ho⟩:=Vu hx (m:=.map q) hm hg;have FO:∀{y:Cx}{p:U}{p':Value}{n:Nat},aD y p p'->aD y (.tup [p,.int .i64 n]) (.tuple #[p',.int .i64 n]):=fun{y p p' n} hp=>by simp only[aD];exact⟨[p',.int .i64 n],rfl,by simp[cD,hp,aD],rfl⟩
    rcases hf:yN T kt kv es 0 with _|f;simp[hf]at h;rcases Jz 0 hr hf with⟨rfl,f1⟩|⟨j,u,w,rfl,f1,f2,f3,d,d',f4,f5,f6,f7,f8,f9⟩;simp only[hf]at h;rcases hinf:T.inf et with _|z;simp[hinf]at h;obtain⟨z1,z2,z⟩:=z;simp only[hinf]at h;rcases hz:iH z with _|zu;simp[hz]at h;simp only[hz,zA,zB]at h;obtain⟨rfl,rfl⟩:=h;exact⟨.tuple #[z,.int .i64 cl],_,by simp only[Bz,hd,h1,h2,zC,ho,f1,hinf],rfl,FO ((L5 _ _ hz).2 _),V3 hx hg hi hl (hr.snoc hk ((L5 _ _ hz).2 x) cl)⟩;simp only[Nat.sub_zero]at f4 f6;simp only[hf,iQ,f4]at h;rcases eS:toV d.key with _|kv';simp[eS]at h;simp only[eS]at h;have e1:=(xT _ _ eS x d'.key).1 f7;rcases hveq:xF 50 kv' kv with _|_;simp[hveq]at h;simp only[hveq,zC,zA,zB]at h;obtain⟨rfl,rfl⟩:=h;have jF:=V3 hx hg hi hl (cl1:=cl) hr;exact⟨.tuple #[w,.int .i64 d'.born],_,by simp only[Bz,hd,h1,h2,zC,ho,f1,iQ,f6,e1,hveq],rfl,by rw[f8];exact FO (jF.mo.ke _ _ (aD.bel _ _ f2) f2),jF⟩
   |_=>simp[hg]at h
  |_=>simp[hd]at h
 |_=>simp[hd]at h
theorem qz4{st:U}{sv:Value}(h:lu x.O m st v=some (r,O'))(hm:aD x m mv)(hs:aD x st sv)(hv:aD x v vv):∃rv y,Iw x.s mv sv vv=some (rv,y.s)/\y.O=O'/\aD y r rv/\Out x y:=by
 unfold lu at h;cases m with
 |map q=>
  cases st with
  |int k b=>
   simp only at h;simp only[aD]at hs;subst hs;rcases hg:gt x.O.h q with _|bb;simp[hg]at h;cases bb with
   |map es cl=>simp only[hg]at h;obtain⟨i,es',hi,rfl,hl,hr,ho⟩:=Vu hx (m:=.map q) hm hg;rcases hb:Ig b es 0 with _|j;simp[hb]at h;simp only[hb,zA,zB]at h;obtain⟨rfl,rfl⟩:=h;rw[qv9 0 hr]at hb;exact⟨undef,_,by simp only[Iw,ho,hb],rfl,by simp[aD],V3 hx hg hi hl (hr.mod j hv)⟩
   |_=>simp[hg]at h
  |_=>simp at h
 |_=>simp at h
theorem z6t(h:ZP T x.O t m k=some (r,O'))(hm:aD x m mv)(hk:aD x k kv):∃rv y,DM T x.s t mv kv=some (rv,y.s)/\y.O=O'/\aD y r rv/\Out x y:=by
 unfold ZP at h;rcases hd:T.und t with _|d;simp[hd]at h;cases d with
 |map kt et=>
  cases m with
  |map q=>
   simp only[hd]at h;rcases hkv:toV k with _|kv0;simp[hkv]at h;simp only[hkv]at h;have e0:=(xT _ _ hkv x kv).1 hk;subst e0;rcases h1:o6 T 50 kt kv with _|_;simp[h1]at h;simp only[h1,zC]at h;rcases hg:gt x.O.h q with _|b;simp[hg]at h;cases b with
   |map es cl=>simp only[hg]at h;obtain⟨i,es',hi,rfl,hl,hr,ho⟩:=Vu hx (m:=.map q) hm hg;rcases hf:yN T kt kv es 0 with _|f;simp[hf]at h;rcases Jz 0 hr hf with⟨rfl,f1⟩|⟨j,u,w,rfl,f1,_⟩;simp only[hf,zA,zB]at h;obtain⟨rfl,rfl⟩:=h;exact⟨undef,_,by simp only[DM,hd,h1,zC,ho,f1],rfl,by simp[aD],V3 hx hg hi hl hr⟩;simp only[hf,zA,zB]at h;obtain⟨rfl,rfl⟩:=h;exact⟨undef,_,by simp only[DM,hd,h1,zC,ho,f1],rfl,by simp[aD],V3 hx hg hi hl (hr.erase j)⟩
   |_=>simp[hg]at h
  |_=>simp[hd]at h
 |_=>simp[hd]at h
theorem z39{d s:U}{dv sv:Value}(h:vj T x.O t d s=some (r,O'))(bD:aD x d dv)(tZ:aD x s sv):∃rv y,Ie T x.s t dv sv=some (rv,y.s)/\y.O=O'/\aD y r rv/\Out x y:=by
 unfold vj at h;rcases hd:T.und t with _|dd;simp[hd]at h;cases dd with
 |slice e=>
  simp only[hd]at h;rcases hs:cC T e with _|sz;simp[hs]at h;simp only[hs]at h;rcases qQ:uI x.O sz s with _|q;simp[qQ]at h;obtain⟨k,cs⟩:=q;simp only[qQ]at h;cases d with
  |sl a off n c=>
   simp only at h;rcases dX:rowOf x.O a with _|l;simp[dX]at h;simp only[dX]at h;split at h;cases h;rename_i fC;have qT:0<n/\0<k/\0<sz:=by omega
   obtain⟨b,c0,vs,_,H',hc,hr,hk⟩:=Wn hx qT.2.2 qQ tZ;obtain rfl:sv=.slice b k c0:=by rcases H' with H' |⟨h0,_⟩;exact H';omega
   have aU:=b? qQ;rcases hput:oM l off (cs.take (Nat.min k n*sz))with _|l1;simp[hput]at h;simp only[hput]at h;obtain⟨e',hg,hl⟩:=py dX;obtain⟨i,hi,rfl,_⟩:=LG hl bD;obtain⟨_,k1,i',lv,e1,e2,e3⟩:=hx.ok a _ hg;rw[hi]at e1;cases e1;simp only[JA,hg,zA,zB]at h;obtain⟨rfl,rfl⟩:=h;have oG:Nat.min k n*sz<=k*sz:=Nat.mul_le_mul_right _ (Nat.min_le_left _ _);have hmp:0<Nat.min k n*sz:=Nat.mul_pos (by simp[Nat.min_def];split<;>omega) qT.2.2;have gI:o8 x.s b (Nat.min k n*sz)=some (vs.take (Nat.min k n*sz)):=by obtain⟨q1,MW⟩:∃q,k*sz=q+1:=⟨k*sz-1,by have:=Nat.mul_pos qT.2.1 qT.2.2;omega⟩;obtain⟨q2,hq2⟩:∃q,Nat.min k n*sz=q+1:=⟨Nat.min k n*sz-1,by omega⟩;rw[MW]at hc;rw[hq2];unfold o8 at hc ⊢;rcases b with _|a;simp at hc;simp only at hc ⊢;rcases MX:lk x.s.h a.block with _|bb;simp[MX]at hc;rcases bb with⟨l0,e0,md0⟩|⟨m0,c1⟩;simp only[MX]at hc ⊢;obtain⟨s1,s2⟩:=Jo hc;rw[s1,Il (by omega),List.take_take];congr 2;omega;simp[MX]at hc
   have z0:=hr.take (Nat.min k n*sz);have hkt:=LI hk (Nat.min k n*sz);obtain⟨rv,p1,p2,p3⟩:=Wp hput e3 z0;have wL:cM x.s i=some (lv,e',0):=by simp[cM,e2]
   refine⟨.int .i64 (Nat.min k n),⟨x.Y,⟨ug x.O.h a (.row l1 e'),x.O.nx⟩,⟨up x.s.h i (.inl (rv,e',0)),x.s.nx⟩⟩,?_,rfl,by simp[aD],Ce hx hg hi e2 rfl (by simp) fun y h1 h2 hm=>⟨p3 k1 hkt,i,rv,h1,h2,hm.ke.E p2.bel p2⟩⟩;simp only[Ie,hd,hs,gI,PQ z0 hkt,zC];cases hv:vs.take (Nat.min k n*sz)with
   |nil=>exfalso;have h1:=z0.2;rw[hv]at h1;have h2:cs.length=k*sz:=aU;rw[List.length_take,h2,Nat.min_eq_left oG]at h1;simp only[zS]at h1;omega|cons v0 Gj=>rw[hv]at p1;simp only[wL,p1]
  |_=>simp at h
 |_=>simp[hd]at h
theorem qtw{xt:TypeId}{a b:U}{va vb:Value}(h:sn T x.O t xt a b=some (r,O'))(ha:aD x a va)(hb:aD x b vb):∃v y,V9 T x.s t xt va vb=some (v,y.s)/\y.O=O'/\aD y r v/\Out x y:=by
 unfold sn at h;split at h;rename_i e kd kd' i hd d6;simp only[aD]at ha hb;subst ha;subst hb;split at h;rename_i sz by_ z hi;split at h;rename_i zu hz;split at h;rename_i hc;obtain⟨c1,c2,c3,c4,c5⟩:=hc;simp only[zA,zB]at h;obtain⟨rfl,rfl⟩:=h;obtain⟨k,hk⟩:∃k,i.toNat=k+1:=⟨i.toNat-1,by omega⟩;have hw:IntKind.i64.wrap i=Int.ofNat (k+1):=by rw[wrap_i64 (by omega) (by omega),<-hk];simp;omega
 have sE:=(LD _ _ hz).2 x;have fX:bB x (uK zu (k+1)) (bZ z.cells.toList (k+1)):=Cn sE (k+1);have EW:okL (uK zu (k+1))=true:=uf c5 _;have h1:=PQ fX EW;have bI:w8 (k+1) by_=true:=Jq (by rw[<-hk];exact c2) (by rw[<-hk];exact c3);have hb:Nat.beq z.cells.toList.length (sz+1)=true:=by simp[beq_eq,c4]
 rw[hk];refine⟨.slice (some ⟨x.s.nx,0,none⟩) (k+1) bS,_,?_,rfl,Xv,Xz hx (Jb fX) (by rw[Bj];exact EW) e (by omega)⟩;have hn:tW T x.s t xt (.slice none 0 0) (.int kd' i)=none:=by simp[tW,xX,w9,vL,hd,d6]
 simp only[V9,hn,Ww,hd,d6,hi,hw,bI,hb,h1,zC];rfl;cases h;cases h;cases h;cases h
theorem qtx{xt:TypeId}{a b:U}{va vb:Value}(h:Xk T x.O t xt a b=some (r,O'))(ha:aD x a va)(hb:aD x b vb):∃v y,V9 T x.s t xt va vb=some (v,y.s)/\y.O=O'/\aD y r v/\Out x y:=by
 unfold Xk at h;split at h;rename_i q hq;cases h;obtain⟨v,y,h1,h2,h3,h4⟩:=qxb hx hq ha hb;exact⟨v,y,by simp only[V9,h1],h2,h3,h4⟩;exact qtw hx h ha hb
theorem qyz{d:U}{dv:Value}(h:lw T x.O t d=some (r,O'))(bD:aD x d dv):∃rv y,UY T x.s t dv=some (rv,y.s)/\y.O=O'/\aD y r rv/\Out x y:=by
 unfold lw at h;rcases hd:T.und t with _|dd;simp[hd]at h;cases dd with
 |slice e=>
  simp only[hd]at h;rcases hi:T.inf e with _|q;simp[hi]at h;obtain⟨sz,by_,z⟩:=q;simp only[hi]at h;rcases hz:pH z.cells.toList with _|zu;simp[hz]at h;simp only[hz]at h;have sE:=(LD _ _ hz).2 x;rcases EW:okL zu with _|_;simp[EW]at h;rw[EW]at h;rcases aU:Nat.beq z.cells.toList.length sz with _|_;rw[aU]at h;cases h;rw[aU]at h;simp only[zC]at h;have vM:zu.length=sz:=by rw[sE.2];simpa[beq_eq]using aU
  have sE:=Jb sE;have vM:(pU zu).length=sz:=by rw[Wj];exact vM
  cases d with
  |nils=>simp only[zA,zB]at h;obtain⟨rfl,rfl⟩:=h;simp only[aD]at bD;subst bD;exact⟨undef,x,by simp[UY,hd],rfl,by simp[aD],Out.refl hx⟩
  |vl k st off n=>
   simp only at h;rcases hv:xJ x.O k st with _|q;simp[hv]at h;obtain⟨l,e',hZ⟩:=q;simp only[hv]at h;rcases hs:Nat.beq hZ sz with _|_;simp[hs]at h;have tZ:hZ=sz:=by simpa[beq_eq]using hs
   subst tZ;simp only[hs,zC]at h;obtain⟨hg,hl⟩:=Xt hv;simp only at hg;obtain⟨l2,e2,sz2,K5,xx⟩:=V4 hl bD;rw[hg]at K5;cases K5;by_cases hn:n=0;simp only[hn,if_true,zA,zB]at h;obtain⟨rfl,rfl⟩:=h;obtain⟨a,c,rfl⟩:=vn xx;subst hn;exact⟨undef,x,by simp[UY,hd],rfl,by simp[aD],Out.refl hx⟩;simp only[hn,if_false]at h;rcases hp:oM l (off*hZ) (uK (pU zu) n)with _|l1;simp[hp]at h;simp only[hp,zA,zB]at h;obtain⟨rfl,rfl⟩:=h;obtain⟨_,k1,k2,k3⟩:=hx.ok k _ hg;rcases k3 with⟨rfl,hJ⟩|⟨i,lv,R5,Qv,R4⟩;exfalso;have:=(qsw hp).1;simp only[uK,List.length_flatten,List.map_replicate,List.sum_replicate_nat,vM,zS]at this;have:=Nat.mul_pos (Nat.pos_of_ne_zero hn) k2;omega;rw[R5]at xx;simp only[IR]at xx;rcases xx with⟨_,h0,_⟩|rfl;exact absurd h0 hn;obtain⟨rv,p1,p2,p3⟩:=Wp hp R4 (Cn sE n);obtain⟨n',rfl⟩:∃n',n=n'+1:=⟨n-1,by omega⟩;have hzo:=uf (zu:=pU zu) (by rw[Bj];exact EW) (n'+1);have h1:=PQ (Cn sE (n'+1)) hzo;have wL:cM x.s i=some (lv,e',hZ+2):=by simp[cM,Qv]
   refine⟨undef,⟨x.Y,⟨ug x.O.h k (.vec l1 e' hZ st),x.O.nx⟩,⟨up x.s.h i (.inl (rv,e',hZ+2)),x.s.nx⟩⟩,?_,rfl,by simp[aD],Ce hx hg R5 Qv rfl (by rintro l e sz st h;cases h;exact⟨_,rfl⟩) fun y h1 h2 hm=>⟨p3 k1 hzo,k2,.inr ⟨i,rv,h1,h2,hm.ke.E p2.bel p2⟩⟩⟩;simp only[UY,hd,hi,h1,zC,wL,p1]
  |_=>simp at h
 |_=>simp[hd]at h
theorem z6u{tm:List U}{tv:List Value}(ht:bB x tm tv){op:Op}{u:U}(h:nO T x.O tm op=some (u,O')):oY T x tv op u O':=by
 have fin:∀{v:Value}{y:Cx},hH T tv op=none->mX T tv x.s op=none->rX T tv x.s op=some (v,y.s)->y.O=O'->aD y u v->Out x y->oY T x tv op u O':=fun{v y} h1 h2 h3 h4 h5 h6=>⟨v,y,qwa h1 h2 h3,h4,h5,h6⟩;unfold nO at h;cases op with
 |alloc e=>simp only at h;rcases hi:T.inf e with _|q;simp[hi]at h;obtain⟨a,b,z⟩:=q;simp only[hi]at h;rcases hz:pH z.cells.toList with _|zu;simp[hz]at h;simp only[hz]at h;rcases hk:okL zu with _|_;simp[hk]at h;simp only[hk,zC,zA,zB]at h;obtain⟨rfl,rfl⟩:=h;exact fin (v:=.pointer (some ⟨x.s.nx,0,none⟩)) rfl rfl (by simp only[rX,hi]) rfl (by simp only[aD];exact⟨rfl,Jj rfl ⟨_,rfl,rfl⟩⟩) (Ya hx ((LD _ _ hz).2 x) hk e)
 |box e o=>simp only at h;rcases ho:c6 tm o with _|a;simp[ho]at h;simp only[ho]at h;obtain⟨va,a1,a2⟩:=iF ht ho;rcases hc:vJ a with _|cs;simp[hc]at h;simp only[hc]at h;obtain⟨c1,c2⟩:=pq a2 hc;simp only[c2,zC,zA,zB]at h;obtain⟨rfl,rfl⟩:=h;exact fin (v:=.pointer (some ⟨x.s.nx,0,none⟩)) rfl rfl (by simp only[rX,a1]) rfl (by simp only[aD];exact⟨rfl,Jj rfl ⟨_,rfl,rfl⟩⟩) (Ya hx c1 c2 e)
 |store t a b=>simp only at h;rcases ha:c6 tm a with _|au;simp[ha]at h;rcases hb:c6 tm b with _|bu;simp[ha,hb]at h;simp only[ha,hb]at h;obtain⟨va,a1,a2⟩:=iF ht ha;obtain⟨vb,b1,b2⟩:=iF ht hb;obtain⟨v,y,h1,h2,h3,h4⟩:=z1w hx h a2 b2;exact fin rfl rfl (by simp only[rX,a1,b1,h1]) h2 h3 h4
 |buildSlice t n ps=>simp only at h;rcases hp:xR tm ps.toList with _|qs;simp[hp]at h;simp only[hp]at h;obtain⟨vs,h1,h2⟩:=pn ht hp;obtain⟨v,y,h3,h4,h5,h6⟩:=qsl hx h h2;exact fin rfl rfl (by simp only[rX,h1,h3]) h4 h5 h6
 |makeSlice t a b=>simp only at h;rcases ha:c6 tm a with _|au;simp[ha]at h;rcases hb:c6 tm b with _|bu;simp[ha,hb]at h;simp only[ha,hb]at h;obtain⟨va,a1,a2⟩:=iF ht ha;obtain⟨vb,b1,b2⟩:=iF ht hb;obtain⟨v,y,h1,h2,h3,h4⟩:=z3x hx h a2 b2;exact fin rfl rfl (by simp only[rX,a1,b1,h1]) h2 h3 h4
 |makeMap t r=>
  cases r with
  |none=>simp only[zA,zB]at h;obtain⟨rfl,rfl⟩:=h;exact fin (v:=.map (some x.s.nx)) rfl rfl (by simp only[rX]) rfl (by simp only[aD];exact⟨rfl,Jj rfl ⟨_,rfl,rfl⟩⟩) (uk hx (.map [] 0) (.inr ([],0)) fun y h1 h2 hm=>⟨_,[],h1,h2,rfl,by simp⟩)
  |some r=>simp at h
 |mapUpdate t m k v=>simp only at h;rcases hm:c6 tm m with _|mu;simp[hm]at h;rcases hk:c6 tm k with _|ku;simp[hm,hk]at h;rcases hv:c6 tm v with _|vu;simp[hm,hk,hv]at h;simp only[hm,hk,hv]at h;obtain⟨va,a1,a2⟩:=iF ht hm;obtain⟨vb,b1,b2⟩:=iF ht hk;obtain⟨vc,c1,c2⟩:=iF ht hv;obtain⟨w,y,h1,h2,h3,h4⟩:=qsn hx h a2 b2 c2;exact fin rfl rfl (by simp only[rX,a1,b1,c1,h1]) h2 h3 h4
 |insert t m k v=>simp only at h;rcases hm:c6 tm m with _|mu;simp[hm]at h;rcases hk:c6 tm k with _|ku;simp[hm,hk]at h;rcases hv:c6 tm v with _|vu;simp[hm,hk,hv]at h;simp only[hm,hk,hv]at h;obtain⟨va,a1,a2⟩:=iF ht hm;obtain⟨vb,b1,b2⟩:=iF ht hk;obtain⟨vc,c1,c2⟩:=iF ht hv;obtain⟨w,y,h1,h2,h3,h4⟩:=qsn hx h a2 b2 c2;exact fin rfl rfl (by simp only[rX,a1,b1,c1,h1]) h2 h3 h4
 |mapEntry t m k=>simp only at h;rcases hm:c6 tm m with _|mu;simp[hm]at h;rcases hk:c6 tm k with _|ku;simp[hm,hk]at h;simp only[hm,hk]at h;obtain⟨va,a1,a2⟩:=iF ht hm;obtain⟨vb,b1,b2⟩:=iF ht hk;obtain⟨w,y,h1,h2,h3,h4⟩:=qxr hx h a2 b2;exact fin rfl rfl (by simp only[rX,a1,b1,h1]) h2 h3 h4
 |entryStore t m k v=>simp only at h;rcases hm:c6 tm m with _|mu;simp[hm]at h;rcases hk:c6 tm k with _|ku;simp[hm,hk]at h;rcases hv:c6 tm v with _|vu;simp[hm,hk,hv]at h;simp only[hm,hk,hv]at h;obtain⟨va,a1,a2⟩:=iF ht hm;obtain⟨vb,b1,b2⟩:=iF ht hk;obtain⟨vc,c1,c2⟩:=iF ht hv;obtain⟨w,y,h1,h2,h3,h4⟩:=qz4 hx h a2 b2 c2;exact fin rfl rfl (by simp only[rX,a1,b1,c1,h1]) h2 h3 h4
 |call c=>
  simp only at h;obtain⟨callee,args,ats⟩:=c;cases callee with
  |builtin b=>
   have two:∀{us:List U}{a b:U},lZ tm args.toList=some us->us=[a,b]->∃va vb,jK tv args.toList=some [va,vb]/\aD x a va/\aD x b vb:=fun{us a b} h1 h2=>by subst h2;obtain⟨vs,a1,a2⟩:=LP ht h1;obtain⟨va,tN,rfl,r1,r2⟩:=a2.inv;obtain⟨vb,vs'',rfl,r3,r4⟩:=r2.inv;rw[r4.nil_inv]at a1;exact⟨va,vb,a1,r1,r3⟩
   cases b with
   |append=>simp only at h;split at h;rename_i a b t xt h1 h2;obtain⟨va,vb,e1,r1,r2⟩:=two h1 rfl;obtain⟨w,y,q1,q2,q3,q4⟩:=qtx hx h r1 r2;exact fin (by simp only[hH]) (by simp only[mX]) (by simp only[rX,e1,h2,q1]) q2 q3 q4;cases h
   |copy=>simp only at h;split at h;rename_i a b t ts h1 h2;obtain⟨va,vb,e1,r1,r2⟩:=two h1 rfl;obtain⟨w,y,q1,q2,q3,q4⟩:=z39 hx h r1 r2;exact fin (by simp only[hH]) (by simp only[mX]) (by simp only[rX,e1,h2,q1]) q2 q3 q4;cases h
   |delete=>simp only at h;split at h;rename_i a b t ts h1 h2;obtain⟨va,vb,e1,r1,r2⟩:=two h1 rfl;obtain⟨w,y,q1,q2,q3,q4⟩:=z6t hx h r1 r2;exact fin (by simp only[hH]) (by simp only[mX]) (by simp only[rX,e1,h2,q1]) q2 q3 q4;cases h
   |clear=>simp only at h;split at h;rename_i a t ts h1 h2;obtain⟨vs,a1,a2⟩:=LP ht h1;obtain⟨va,tN,rfl,r1,r2⟩:=a2.inv;rw[r2.nil_inv]at a1;obtain⟨w,y,q1,q2,q3,q4⟩:=qyz hx h r1;exact fin (by simp only[hH]) (by simp only[mX]) (by simp only[rX,a1,h2,q1]) q2 q3 q4;cases h
   |_=>simp at h
  |_=>simp at h
 |_=>simp at h
theorem WR{tm:List U}{tv:List Value}(ht:bB x tm tv){op:Op}{u:U}(h:bO T x.O tm op=some (u,O')):oY T x tv op u O':=by
 unfold bO at h;cases h1:i8 T x.O tm op with
 |some v=>simp only[h1,zA,zB]at h;obtain⟨rfl,rfl⟩:=h;exact z4d hx ht h1
 |none=>simp only[h1]at h;rcases h2:pL T x.O tm op with _|v;simp only[h2]at h;exact z6u hx ht h;simp only[h2,zA,zB]at h;obtain⟨rfl,rfl⟩:=h;exact qwn hx ht h2
omit hx in
theorem qva{tm:List U}{tv:List Value}(ht:bB x tm tv){op:Op}{f:FuncId}{args:List U}(h:jL T tm op=some (f,args)):∃vs,callOf T tv op=some (f,vs)/\bB x args vs:=by
 unfold jL at h;cases op with
 |call c=>
  simp only at h;obtain⟨callee,a7,ats⟩:=c;cases callee with
  |value o=>
   simp only at h;rcases ho:c6 tm o with _|a;simp[ho]at h;obtain⟨va,a1,a2⟩:=iF ht ho;cases a with
   |fn fn first cap=>
    cases fn with
    |func g=>simp only[ho]at h;simp only[aD]at a2;obtain⟨p,q,rfl,r1,r2,r3,r4⟩:=a2;rcases hg:T.fn g with _|fd;simp[hg]at h;simp only[hg]at h;rcases gN:fd.body.isSome with _|_;simp[gN]at h;simp only[gN,zC]at h;rcases hl:lZ tm a7.toList with _|us;simp[hl]at h;simp only[hl,zA,zB]at h;obtain⟨rfl,rfl⟩:=h;obtain⟨vs,e1,e2⟩:=LP ht hl;exact⟨p++vs++q,by simp only[callOf,a1,hg,gN,zC,e1],((show bB x first p from⟨r1,r2⟩).append e2).append ⟨r3,r4⟩⟩
    |_=>simp[ho]at h
   |_=>simp[ho]at h
  |_=>simp at h
 |_=>simp at h
end
end Go.Vx
