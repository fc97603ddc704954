import Derived.Test.YtldlchbgolpkaaaGreatP5
set_option linter.all false
namespace Go.Vx
open Go Go.Rx
variable{n:Nat}
theorem Aa{b:Nat}(h1:n*b<=140737488355328)(h2:n<=140737488355328):sV n b=true:=by
 simp[sV,Nat.ble_eq_true_of_le h1,Nat.ble_eq_true_of_le h2]
variable{e:TypeId}
theorem Ys{s:S}{i off:Nat}{l:List Value}{md:Nat}(hl:lk s.h i=some (.inl (l,e,md)))(h:off+n<=l.length):mF s (some ⟨i,off,none⟩) n=some ((l.drop off).take n):=by
 cases n with|zero=>simp[mF]|succ n=>simp only[mF,hl];exact ZB h
theorem qo5(s:S)(b:Option Addr):mF s b 0=some []:=rfl
section
variable{T:Tb}{x:Cx}(hx:iC x)
include hx
variable{sz:Nat}
variable{k:Nat}
variable{new:List U}
theorem Lt(hsz:0<sz){u:U}{v:Value}(h:rC x.σ sz u=some (k,new))(hr:aA x u v):∃b c vs,sX v=.slice b k c/\(v=.slice b k c\/k=0/\b=none/\c=0/\new=[]/\∃r,v=.chan (some r))/\mF x.s b (k*sz)=some vs/\aX x new vs/\okL new=true:=by
 unfold rC at h;cases u with
 |nils=>simp only[zA,zB]at h;obtain⟨rfl,rfl⟩:=h;simp only[aA]at hr;subst hr;exact⟨none,0,[],rfl,.inl rfl,by rw[Nat.zero_mul];rfl,aX.nil x,rfl⟩
 |isl t l=>simp only at h;split at h;rename_i hall;simp only[zA,zB]at h;obtain⟨rfl,rfl⟩:=h;simp only[aA]at hr;rcases hr with⟨rfl,rfl |⟨r,rfl⟩⟩|⟨i,off,c,rfl,_,hrow⟩;exact⟨none,0,[],rfl,.inl rfl,by rw[zS,Nat.zero_mul];rfl,aX.nil x,rfl⟩;exact⟨none,0,[],rfl,.inr ⟨rfl,rfl,rfl,rfl,r,rfl⟩,by rw[zS,Nat.zero_mul];rfl,aX.nil x,rfl⟩;by_cases hne:l=[];subst hne;exact⟨_,c,[],rfl,.inl rfl,by rw[zS,Nat.zero_mul];rfl,aX.nil x,rfl⟩;rcases hrow with hrow |⟨row,e,sz',g1,g2,g3⟩;exact absurd hrow hne;have:=li g2 hne hall;subst this;obtain⟨f1,f2⟩:=ef g2;have hlen:=Mk g2;rw[List.length_drop]at hlen;have:0<l.length*sz':=Nat.mul_pos (by cases l<;>simp_all) hsz;exact⟨_,c,_,rfl,.inl rfl,Ys g1 (by omega),f1,f2⟩;cases h
 |sl k' off n c=>simp only at h;rcases hrow:rowOf x.σ k' with _|l;simp[hrow]at h;simp only[hrow]at h;rcases hs:iO l off (n*sz)with _|cs;simp[hs]at h;simp only[hs,zA,zB]at h;obtain⟨rfl,rfl⟩:=h;obtain⟨e,hg,hl⟩:=Yl hrow;obtain⟨i,hi,rfl,_⟩:=GR hl hr;obtain⟨_,k1,i',lv,e1,e2,e3⟩:=hx.ok k' _ hg;rw[hi]at e1;cases e1;obtain⟨s1,s2⟩:=yx hs e3;obtain⟨q1,rfl⟩:=K3 hs;exact⟨_,c,_,rfl,.inl rfl,Ys e2 (by rw[<-e3.2];exact q1),ZN s2,by rw[U7];exact GW (A4 k1 _) _⟩
 |vl k' st off n=>simp only at h;rcases hv:rD x.σ k' st with _|q;simp[hv]at h;obtain⟨l,e,sz'⟩:=q;obtain⟨hg,hl⟩:=Nd hv;simp only[hv,beq_eq]at h;by_cases hz:sz'=sz;subst hz;simp only[yC,zC]at h;rcases hs:iO l (off*sz') (n*sz')with _|cs;simp[hs]at h;simp only[hs,zA,zB]at h;obtain⟨rfl,rfl⟩:=h;obtain⟨q1,rfl⟩:=K3 hs;by_cases hn:n=0;subst hn;obtain⟨_,_,_,_,hvl⟩:=P7 hl hr;obtain⟨b,c,rfl⟩:=Ty hvl;exact⟨b,c,[],rfl,.inl rfl,by rw[Nat.zero_mul];rfl,by simpa using aX.nil x,by simp[okL]⟩;obtain⟨i,l0,e0,Z3,l',h1,h2,rfl,h4,h5,h6,h7⟩:=Wj hx hl hr (by omega);have:=hg.symm.trans h1;cases this;obtain⟨s1,s2⟩:=yx hs h5;exact⟨_,_,_,rfl,.inl rfl,Ys h4 (by rw[<-h5.2];exact q1),s2,GW (A4 h7 _) _⟩;simp[hz]at h
 |_=>simp at h
omit hx in
theorem Ng{l:List U}{e:TypeId}{sz N:Nat}{c:iZ}:aA ⟨jI x.ρ x.σ.nx (some x.s.nx),cY x.σ (.vec l e sz 0),⟨(x.s.nx,c)::x.s.h,x.s.nx+1⟩⟩ (.vl x.σ.nx 0 0 N) (.slice (some ⟨x.s.nx,0,none⟩) N bL):=by
 simp only[aA];refine⟨rfl,by simp[cY],fun b hb=>?_⟩;simp only[cY,d8,if_true,zA]at hb;subst hb;exact⟨zF _,fun _=>⟨l,e,sz,rfl,by simp[jI,DZ]⟩⟩
omit hx in
theorem Yv{e:TypeId}{sz:Nat}{o:Option Addr}(ho:∀a,o=some a->a.spot=none):aA ⟨jI x.ρ x.σ.nx none,cY x.σ (.vec [] e sz 0),x.s⟩ (.vl x.σ.nx 0 0 0) (.slice o 0 0):=by
 simp only[aA];refine⟨rfl,by simp[cY],fun b hb=>?_⟩;simp only[cY,d8,if_true,zA]at hb;subst hb;exact⟨zF _,fun _=>⟨[],e,sz,rfl,by simpa[jI,DZ]using ho⟩⟩
variable{t:TypeId}
variable{xt:TypeId}
theorem qny{e2:TypeId}{by_:Nat}{z:Value}(hd:T.und t=some (.slice e))(cK:T.und xt=some (.slice e2))(hi:T.inf e=some (sz+1,by_,z))(hz:Nat.beq z.cells.toList.length (sz+1)=true)
  {o:Option Addr} (ho:∀a,o=some a->a.spot=none) {b:Option Addr} {c:Nat} {vs:List Value} (hc:mF x.s b (k*(sz+1))=some vs) (hr:aX x new vs) (hk:okL new=true) (hlen:new.length=k*(sz+1)) (hroom:k*by_<=140737488355328/\k<=140737488355328):
  ∃v y,qM T x.s t xt (.slice o 0 0) (.slice b k c)=some (v,y.s)/\y.σ=cY x.σ (.vec new e (sz+1) 0)/\aA y (.vl x.σ.nx 0 0 k) v/\Out x y:=by
 cases k with|zero=>have:new=[]:=List.eq_nil_of_length_eq_zero (by rw[hlen];simp);subst this;rw[hr.nil_inv]at hc;refine⟨.slice o 0 0,⟨jI x.ρ x.σ.nx none,cY x.σ (.vec [] e (sz+1) 0),x.s⟩,?_,rfl,Yv ho,Mw hx e (sz+1) (by omega)⟩;simp only[qM,uE,sX,zD,sD,hd,cK,hi,hc,oM,zC,y9];rfl|succ k=>refine⟨.slice (some ⟨x.s.nx,0,none⟩) (k+1) bL,_,?_,rfl,Ng,Nl hx hr hk e (by omega)⟩;simp only[qM,uE,sX,zD,sD,hd,cK,hi,hc,K6 hr hk,zC,OO,y9,show Nat.ble (k+1) 0=false from rfl,zD,Nat.zero_mul,qo5,hz,Nat.zero_add,Aa hroom.1 hroom.2,List.nil_append,Rx.newRow]
theorem Zb{e2:TypeId}{by_:Nat}{z:Value}(hd:T.und t=some (.slice e))(cK:T.und xt=some (.slice e2))(hi:T.inf e=some (sz+1,by_,z))(hz:Nat.beq z.cells.toList.length (sz+1)=true)
  {o:Option Addr} {cp:Nat} {old:List U} {ov:List Value} (hcp:cp<bL) (hold:mF x.s o (n*(sz+1))=some ov) (hor:aX x old ov) (hok:okL old=true) {b:Option Addr} {c:Nat} {vs:List Value} (hc:mF x.s b (k*(sz+1))=some vs) (hr:aX x new vs) (hk:okL new=true)
  (I6:0<k) (hfull:cp<n+k) (hroom:(n+k)*by_<=140737488355328/\n+k<=140737488355328):
  ∃v y,qM T x.s t xt (.slice o n cp) (.slice b k c)=some (v,y.s)/\y.σ=cY x.σ (.vec (old++new) e (sz+1) 0)/\aA y (.vl x.σ.nx 0 0 (n+k)) v/\Out x y/\∃b n c,v=.slice (some b) n c:=by
 cases k with
 |zero=>omega|succ k=>
  refine⟨.slice (some ⟨x.s.nx,0,none⟩) (n+(k+1)) bL,_,?_,rfl,Ng,Nl hx (hor.append hr) (BZ hok hk) e (by omega),_,_,_,rfl⟩;have h1:Nat.ble (n+(k+1)) cp=false:=by rcases h:Nat.ble (n+(k+1)) cp with _|_;rfl;have:=zY h;omega
  simp only[qM,uE,sX,zD,sD,hd,cK,hi,hc,K6 hr hk,zC,OO,lX hcp,h1,zD,hold,hz,Aa hroom.1 hroom.2,Rx.newRow]
theorem UY{K:Nat}{l l1:List U}{st:Nat}(hg:gt x.σ.h K=some (.vec l e sz st))(o:Option Nat)(s':S)(hrows:∀i b,lk x.s.h i=some b->x.ρ K≠some i->lk s'.h i=some b)(hfresh:∀i,o=some i->x.ρ K=some i\/x.s.nx<=i)
  (hbd:∀i b,lk s'.h i=some b->i<s'.nx) (hk:okL l1=true) (hB:∀y:Cx,y.s=s'->Mo x.σ.nx x y->l1=[]/\o=none\/∃i l',o=some i/\lk s'.h i=some (.inl (l',e,sz+2))/\aX y l1 l'):
  Out x ⟨jI x.ρ K o,⟨ug x.σ.h K (.vec l1 e sz (st+1)),x.σ.nx⟩,s'⟩:=by
 have hsz:0<sz:=(hx.ok K _ hg).2.2.1;refine step1 hx K (.vec l1 e sz (st+1)) (zF _) (hx.ok K _ hg).1 (fun k hk=>⟨by simp[uO,Ne.symm hk],Vo _ _ hk⟩) (by simp[uO,hg]) (.inl ⟨_,hg,Nat.le_succ _,fun h=>by simp[B.st]at h⟩) (fun i b hb hne=>hrows i b hb (hne _ hg)) (fun i hi=>?_) hbd (fun hm=>⟨hk,hsz,?_⟩);change jI _ _ _ _=some i at hi;rw[Xr]at hi;rcases hfresh i hi with h |h;exact .inl ⟨_,hg,h⟩;exact .inr h;rcases hB _ rfl hm with⟨h1,h2⟩|⟨i,l',h1,h2,h3⟩;exact .inl ⟨h1,by simp[jI,h2]⟩;exact .inr ⟨i,l',by simp[jI,h1],h2,h3⟩
omit hx in
theorem UQ{K:Nat}{l l1:List U}{e:TypeId}{sz st N:Nat}(hx:iC x)(hg:gt x.σ.h K=some (.vec l e sz st)){o:Option Nat}{s':S}{v:Value}(h1:v.oneCell'=true)(h:DZ 0 N v sz o):
  aA ⟨jI x.ρ K o,⟨ug x.σ.h K (.vec l1 e sz (st+1)),x.σ.nx⟩,s'⟩ (.vl K (st+1) 0 N) v:=by
 simp only[aA];refine⟨h1,(hx.ok K _ hg).1,fun b hb=>?_⟩;simp only[uO,if_true,hg,zM,zA]at hb;subst hb;exact⟨zF _,fun _=>⟨l1,e,sz,rfl,by simpa[jI]using h⟩⟩
omit hx in
theorem yu{sz:Nat}{u:U}{k:Nat}{new:List U}(h:rC x.σ sz u=some (k,new)):new.length=k*sz:=by
 unfold rC at h;cases u with
 |nils=>simp only[zA,zB]at h;obtain⟨rfl,rfl⟩:=h;simp
 |isl t l=>
  simp only at h;split at h;rename_i hall;simp only[zA,zB]at h;obtain⟨rfl,rfl⟩:=h;have:=yg hall;clear hall;induction l with
  |nil=>simp|cons c l ih=>have h1:=this c (by simp);have h2:=ih fun d hd=>this d (by simp[hd]);simp only[List.flatten_cons,zU,zO,Nat.succ_mul,h2,h1];omega
  cases h
 |sl k' off n c=>simp only at h;rcases hrow:rowOf x.σ k' with _|l;simp[hrow]at h;simp only[hrow]at h;rcases hs:iO l off (n*sz)with _|cs;simp[hs]at h;simp only[hs,zA,zB]at h;obtain⟨rfl,rfl⟩:=h;obtain⟨q1,rfl⟩:=K3 hs;rw[Ls];simp;omega
 |vl k' st off n=>simp only at h;rcases hv:rD x.σ k' st with _|q;simp[hv]at h;obtain⟨l,e,sz'⟩:=q;simp only[hv,beq_eq]at h;by_cases hz:sz'=sz;simp only[hz,yC,zC]at h;rcases hs:iO l (off*sz) (n*sz)with _|cs;simp[hs]at h;simp only[hs,zA,zB]at h;obtain⟨rfl,rfl⟩:=h;obtain⟨q1,rfl⟩:=K3 hs;simp;omega;simp[hz]at h
 |_=>simp at h
theorem qz8{a b r:U}{va vb:Value}{σ':Sg}(h:EN T x.σ t xt a b=some (r,σ'))(ha:aA x a va)(hb:aA x b vb):∃v y,qM T x.s t xt va vb=some (v,y.s)/\y.σ=σ'/\aA y r v/\Out x y:=by
 unfold EN at h;rcases hd:T.und t with _|d;simp[hd]at h;cases d with
 |slice e=>
  rcases cK:T.und xt with _|d2;simp[hd,cK]at h;cases d2 with
  |slice e2=>
   simp only[hd,cK]at h;rcases hi:T.inf e with _|q;simp[hi]at h;obtain⟨sz,by_,z⟩:=q;cases sz with
   |zero=>simp[hi]at h|succ sz=>
    simp only[hi]at h;rcases hz:Nat.beq z.cells.toList.length (sz+1)with _|_;simp only[hz,zD]at h;cases h;simp only[hz,zC]at h;rcases hsrc:rC x.σ (sz+1) b with _|q;simp[hsrc]at h;obtain⟨k,new⟩:=q;simp only[hsrc]at h;have hlen:=yu hsrc;obtain⟨bb,c,vs,hfl,_,hc,hr,hk⟩:=Lt hx (by omega) hsrc hb;have happ:∀va',qM T x.s t xt va' vb=qM T x.s t xt va' (.slice bb k c):=fun va'=>by unfold qM;rw[hfl];simp only[sX,uE,zD]
    rw[happ];cases a with
    |nils=>simp only at h;split at h;rename_i hroom;simp only[zA,zB]at h;obtain⟨rfl,rfl⟩:=h;simp only[aA]at ha;subst ha;exact qny hx hd cK hi hz (by simp) hc hr hk hlen hroom;cases h
    |isl tt l=>
     rcases tt with _|_;simp at h;simp only at h;split at h
     ·rename_i hroom;obtain⟨r1,r2,r3,r4⟩:=hroom;simp only[zA,zB]at h;obtain⟨rfl,rfl⟩:=h;obtain⟨o,c0,ov,_,e1,e2,e3,e4⟩:=Lt hx (sz:=sz+1) (by omega) (u:=.isl true l) (k:=l.length) (new:=l.flatten) (by simp only[rC,r4,if_true]) ha;rcases e1 with e1 |⟨el,rfl,rfl,enew,rr,rfl⟩
      case inr=>
       have hln:l=[]:=List.eq_nil_of_length_eq_zero el;subst hln;obtain⟨v,y,h1,h2,h3,h4,b1,n1,c1,hv⟩:=Zb (T:=T) hx hd cK hi hz (n:=0) (cp:=0) (o:=none) (old:=[]) (ov:=[]) (by simp[bL]) (by rw[Nat.zero_mul];rfl) (aX.nil x) rfl hc hr hk r3 (by omega) ⟨by simpa using r1,by simpa using r2⟩;have h0:sD T x.s t xt (.slice none 0 0) (.slice bb k c)=some (v,y.s):=by simpa only[qM,uE,sX,zD]using h1
       refine⟨v,y,?_,by simpa using h2,by simpa using h3,h4⟩;simp only[qM,uE,sX,zC,zD,h0,hv]
      subst e1;have CT:c0=l.length/\c0<bL:=by simp only[aA]at ha;rcases ha with⟨rfl,h1 |⟨_,h1⟩⟩|⟨i,off,c1,h1,h2,_⟩;cases h1;simp[bL];cases h1;cases h1;exact h2 trivial
      obtain⟨v,y,h1,h2,h3,h4,_⟩:=Zb hx hd cK hi hz CT.2 e2 e3 e4 hc hr hk r3 (by omega) ⟨r1,r2⟩;exact⟨v,y,h1,h2,h3,h4⟩
     cases h
    |sl k' off n cp=>
     simp only at h;rcases hrow:rowOf x.σ k' with _|l;simp[hrow]at h;simp only[hrow]at h;rcases hs:iO l off (n*(sz+1))with _|old;simp[hs]at h;simp only[hs]at h;obtain⟨e',hg,hl⟩:=Yl hrow;obtain⟨i,hi',hva,hcp,_⟩:=GR hl ha;split at h;rename_i h0;obtain⟨rfl,rfl⟩:=h0;split at h;rename_i hroom;simp only[zA,zB]at h;obtain⟨rfl,rfl⟩:=h;subst hva;exact qny hx hd cK hi hz (by simp) hc hr hk hlen hroom;cases h;split at h;rename_i hfull;split at h;rename_i hroom;obtain⟨r1,r2,r3⟩:=hroom;simp only[zA,zB]at h;obtain⟨rfl,rfl⟩:=h;obtain⟨o,c0,ov,_,e1,e2,e3,e4⟩:=Lt hx (sz:=sz+1) (by omega) (u:=.sl k' off n cp) (k:=n) (new:=nU old) (by simp only[rC,hrow,hs]) ha;have:o=some ⟨i,off,none⟩/\c0=cp:=by rw[hva]at e1;rcases e1 with e1 |⟨_,_,_,_,_,e1⟩;cases e1;exact⟨rfl,rfl⟩;cases e1
     obtain⟨rfl,rfl⟩:=this;rw[hva];obtain⟨v,y,h1,h2,h3,h4,_⟩:=Zb hx hd cK hi hz hcp e2 e3 e4 hc hr hk r3 hfull ⟨r1,r2⟩;exact⟨v,y,h1,h2,h3,h4⟩;cases h;cases h
    |vl K st off n=>
     simp only at h;rcases hg:gt x.σ.h K with _|b0;simp[hg]at h;cases b0 with
     |vec l e' sz' st'=>
      simp only[hg,beq_eq]at h;by_cases hst:st'=st;by_cases he:e'=e;by_cases hsz:sz'=sz+1;subst hst;subst he;subst hsz;simp only[yC,zC]at h;rcases hs:iO l (off*(sz+1)) (n*(sz+1))with _|p;simp[hs]at h;simp only[hs]at h;split at h;rename_i hroom;obtain⟨r1,r2,r3⟩:=hroom;simp only[zA,zB]at h;obtain⟨rfl,rfl⟩:=h;obtain⟨l0,e0,Z3,hg',hvl⟩:=P7 (x:=x) (by simp[bH,hg,B.st]) ha;have:=hg.symm.trans hg';cases this;obtain⟨_,k1,k2,h3⟩:=hx.ok K _ hg;obtain⟨q1,rfl⟩:=K3 hs;rcases h3 with⟨rfl,hρ⟩|⟨i,l',e1,e2,e3⟩;rw[hρ]at hvl;obtain⟨rfl,rfl,o,rfl,ho⟩:=hvl;cases k with
      |zero=>have:new=[]:=List.eq_nil_of_length_eq_zero (by rw[hlen];simp);subst this;rw[hr.nil_inv]at hc;refine⟨.slice o 0 0,⟨jI x.ρ K none,⟨ug x.σ.h K (.vec [] e' (sz+1) (st'+1)),x.σ.nx⟩,x.s⟩,?_,by simp,UQ hx hg rfl ⟨rfl,rfl,o,rfl,ho⟩,UY hx hg none x.s (fun i b hb _=>hb) (by simp) hx.bd rfl (fun y _ _=>.inl ⟨rfl,rfl⟩)⟩;simp only[qM,uE,sX,zD,sD,hd,cK,hi,hc,oM,zC,y9];rfl|succ k=>
       refine⟨.slice (some ⟨x.s.nx,0,none⟩) (0+(k+1)) bL,⟨jI x.ρ K (some x.s.nx),⟨ug x.σ.h K (.vec new e' (sz+1) (st'+1)),x.σ.nx⟩,Rx.newRow x.s vs e' (sz+1+2)⟩,?_,by simp,UQ hx hg rfl (.inr (by simp)),UY hx hg (some x.s.nx) _ (fun i b hb _=>?_) (fun i hi=>.inr (by cases hi;exact zF _)) (fun i b hb=>?_) hk (fun y hy hm=>.inr ⟨x.s.nx,vs,rfl,?_,hm.ke.E hr.bel hr⟩)⟩;have h1:Nat.ble (0+(k+1)) 0=false:=by rcases h:Nat.ble (0+(k+1)) 0 with _|_;rfl;have:=zY h;omega
       simp only[qM,uE,sX,zD,sD,hd,cK,hi,hc,K6 hr hk,zC,OO,y9,h1,zD,Nat.zero_mul,qo5,hz,Aa r1 r2,List.nil_append];have:=hx.bd i b hb;simp[Rx.newRow,jY,show x.s.nx≠i by omega,hb];simp only[Rx.newRow,jY]at hb ⊢;split at hb;omega;exact Nat.lt_succ_of_lt (hx.bd i b hb);simp[Rx.newRow,jY]
      rw[e1]at hvl;rcases hvl with⟨h0,rfl,_⟩|rfl;omega;have hown:c9 x.s i=some (l',e',sz+1+2):=by simp[c9,e2]
      have hcc:Nat.blt (bL+off) bL=false:=A0 (by omega);have hcd:bE (bL+off)=off:=by simp[bE]
      have hseg:rP l' (off*(sz+1)) (n*(sz+1))=some ((l'.drop (off*(sz+1))).take (n*(sz+1))):=ZB (by rw[<-e3.2];exact q1);have hoff:Nat.beq (off*(sz+1)) (off*(sz+1))=true:=by simp
      cases k with
      |zero=>
       have:new=[]:=List.eq_nil_of_length_eq_zero (by rw[hlen];simp);subst this;rw[hr.nil_inv]at hc;have h0:off=0/\n*(sz+1)=l.length:=by omega
       obtain⟨rfl,hfull⟩:=h0;have hp:(l.drop (0*(sz+1))).take (n*(sz+1))++[]=l:=by simp[hfull]
       rw[hp];refine⟨.slice (some ⟨i,0*(sz+1),none⟩) n (bL+0),⟨jI x.ρ K (some i),⟨ug x.σ.h K (.vec l e' (sz+1) (st'+1)),x.σ.nx⟩,x.s⟩,?_,by simp,UQ hx hg rfl (.inr rfl),UY hx hg (some i) x.s (fun i b hb _=>hb) (fun j hj=>.inl (by cases hj;exact e1)) hx.bd k1 (fun y _ hm=>.inr ⟨i,l',rfl,e2,hm.ke.E e3.bel e3⟩)⟩;simp only[qM,uE,sX,zD,sD,hd,cK,hi,hc,oM,zC,hcc,zD,hown,Nat.beq_refl,hcd,hseg]
      |succ k=>have hpr:aX x ((l.drop (off*(sz+1))).take (n*(sz+1))++new) ((l'.drop (off*(sz+1))).take (n*(sz+1))++vs):=((e3.drop _).take _).append hr;have hpk:=BZ (GW (A4 k1 (off*(sz+1))) (n*(sz+1))) hk;refine⟨.slice (some ⟨x.s.nx,0,none⟩) (n+(k+1)) bL,⟨jI x.ρ K (some x.s.nx),⟨ug x.σ.h K (.vec ((l.drop (off*(sz+1))).take (n*(sz+1))++new) e' (sz+1) (st'+1)),x.σ.nx⟩,⟨(x.s.nx,.inl ((l'.drop (off*(sz+1))).take (n*(sz+1))++vs,e',sz+1+2))::rm x.s.h i,x.s.nx+1⟩⟩,?_,rfl,UQ hx hg rfl (.inr (by simp)),UY hx hg (some x.s.nx) _ (fun j b hb hne=>?_) (fun i hi=>.inr (by cases hi;exact zF _)) (fun j b hb=>?_) hpk (fun y hy hm=>.inr ⟨x.s.nx,_,rfl,?_,hm.ke.E hpr.bel hpr⟩)⟩;simp only[qM,uE,sX,zD,sD,hd,cK,hi,hc,K6 hr hk,zC,OO,hcc,zD,hown,Nat.beq_refl,hcd,hseg,hz,Aa r1 r2];have:=hx.bd j b hb;have hij:i≠j:=fun h=>hne (by rw[e1,h]);simp[jY,Kj,show x.s.nx≠j by omega,hij,hb];simp only[jY,Kj]at hb ⊢;split at hb;omega;split at hb;cases hb;exact Nat.lt_succ_of_lt (hx.bd j b hb);simp[jY]
      cases h;simp[hst,he,hsz]at h;simp[hst,he]at h;simp[hst]at h
     |_=>simp[hg]at h
    |_=>simp at h
  |_=>simp[hd,cK]at h
 |_=>simp[hd]at h
end
theorem zao(es:List ME)(i:Nat)(f:ME->ME):AN es i f=es.modify i f:=by
 induction es generalizing i with|nil=>simp[AN]|cons e es ih=>cases i<;>simp[AN,ih]
theorem z1s(es:List ME)(i:Nat):UH es i=es.eraseIdx i:=by
 induction es generalizing i with|nil=>simp[UH]|cons e es ih=>cases i<;>simp[UH,ih]
variable{x:Cx}
variable{es:List ME}
variable{vs:List MapEntry}
variable{k:U}
variable{v:U}
variable{kv:Value}
variable{vv:Value}
theorem pA.snoc(h:pA x es vs)(hk:aA x k kv)(hv:aA x v vv)(b:Nat):pA x (es++[⟨k,v,b⟩]) (vs++[⟨kv,vv,b⟩]):=by
 refine⟨by simp[h.1],fun i e he=>?_⟩;rw[List.getElem?_append]at he ⊢;rw[<-h.1];split at he;rename_i hlt;simp only[hlt,if_true];exact h.2 i e he;rename_i hlt;simp only[hlt,if_false];cases hj:i-es.length with
 |zero=>simp[hj]at he;subst he;exact⟨⟨kv,vv,b⟩,by simp,hk,hv,rfl⟩|succ j=>simp[hj]at he
theorem pA.mod(h:pA x es vs)(j:Nat)(hv:aA x v vv):pA x (AN es j fun e=>{ e with val:=v }) (FT vs j fun e=>{ e with val:=vv }):=by
 rw[zao,Vy];refine⟨by simp[h.1],fun i e he=>?_⟩;rw[List.getElem?_modify]at he ⊢;rcases hi:es[i]? with _|e0;simp[hi]at he;obtain⟨v0,q1,q2,q3,q4⟩:=h.2 i e0 hi;rw[hi]at he;simp only[Option.map_eq_map,zM,zA]at he;rw[q1];by_cases hji:j=i;simp only[hji,if_true]at he ⊢;subst he;exact⟨_,rfl,q2,hv,q4⟩;simp only[hji,if_false]at he ⊢;subst he;exact⟨_,rfl,q2,q3,q4⟩
theorem pA.erase(h:pA x es vs)(j:Nat):pA x (UH es j) (OZ vs j):=by
 rw[z1s,tx];refine⟨by simp[List.length_eraseIdx,h.1],fun i e he=>?_⟩;rw[List.getElem?_eraseIdx]at he ⊢;split at he;rename_i hlt;simp only[hlt,if_true];exact h.2 i e he;rename_i hlt;simp only[hlt,if_false];exact h.2 _ e he
theorem pA.mono{y:Cx}(hm:Mo x.σ.nx x y)(h:pA x es vs):pA y es vs:=⟨h.1,fun j e he=>by
  obtain⟨v,q1,q2,q3,q4⟩:=h.2 j e he;exact⟨v,q1,hm.ke _ _ (aA.bel _ _ q2) q2,hm.ke _ _ (aA.bel _ _ q3) q3,q4⟩⟩
theorem bw{x:Cx}{b:Int}: ∀{es:List ME}{vs:List MapEntry}(i:Nat),pA x es vs->XS b es i=JQ b vs i
  | [], vs, i, h => by have : vs = [] := by have := h.1; simpa using this.symm
                       subst this;rfl
  |e::es,[],i,h=> by have:=h.1;simp at this
  |e::es,v::vs,i,h=> by obtain⟨v0,q0,q1,q2,q3⟩:=h.2 0 e rfl;simp at q0;subst q0;have h':pA x es vs:=⟨by have:=h.1;simpa using this,fun j d hd=> by simpa using h.2 (j+1) d (by simpa using hd)⟩;simp only[XS,JQ,q3,bw (i+1) h']
section
variable{T:Tb}{x:Cx}(hx:iC x)
include hx
variable{m:U}
variable{mv:Value}
theorem Li{m:U}{r:Nat}{cl:Nat}(hm:aA x (.map r) mv)(hg:gt x.σ.h r=some (.map es cl)):∃i es',x.ρ r=some i/\mv=.map (some i)/\lk x.s.h i=some (.inr (es',cl))/\pA x es es'/\vW x.s i=some (es',cl):=by
 obtain⟨i,hi,rfl⟩:=Mn (x:=x) (by simp[bH,hg,B.st]) hm;obtain⟨_,i',es',e1,e2,e3⟩:=hx.ok r _ hg;rw[hi]at e1;cases e1;exact⟨i,es',hi,rfl,e2,e3,by simp[vW,e2]⟩
theorem P6{r i:Nat}{es1:List ME}{es' SM:List MapEntry}{cl cl1:Nat}(hg:gt x.σ.h r=some (.map es cl))(hi:x.ρ r=some i)(hl:lk x.s.h i=some (.inr (es',cl)))(hr:pA x es1 SM):
  Out x ⟨x.ρ,GQ x.σ r es1 cl1,GI x.s i SM cl1⟩:=
 UZ hx hg hi hl rfl (by simp) fun y h1 h2 hm=>⟨i,SM,h1,h2,hr.mono hm⟩
variable{t:TypeId}
variable{r:U}
variable{σ':Sg}
theorem er(h:ZD T x.σ t m k v=some (r,σ'))(hm:aA x m mv)(hk:aA x k kv)(hv:aA x v vv):∃rv y,OU T x.s t mv kv vv=some (rv,y.s)/\y.σ=σ'/\aA y r rv/\Out x y:=by
 unfold ZD at h;rcases hd:T.und t with _|d;simp[hd]at h;cases d with
 |map kt et=>
  cases m with
  |map q=>
   simp only[hd]at h;rcases hkv:toV k with _|kv0;simp[hkv]at h;simp only[hkv]at h;have e0:=(u6 _ _ hkv x kv).1 hk;subst e0;rcases h1:lS T 50 kt kv with _|_;simp[h1]at h;rcases h2:plain kv with _|_;simp[h1,h2]at h;simp only[h1,h2,zC]at h;rcases hg:gt x.σ.h q with _|b;simp[hg]at h;cases b with
   |map es cl=>simp only[hg]at h;obtain⟨i,es',hi,rfl,hl,hr,ho⟩:=Li hx (m:=.map q) hm hg;rcases hf:uP T kt kv es 0 with _|f;simp[hf]at h;rcases Aj 0 hr hf with⟨rfl,f1⟩|⟨j,u,w,rfl,f1,f2,f3,d,d',f4,f5,f6,f7,f8,f9⟩;simp only[hf,zA,zB]at h;obtain⟨rfl,rfl⟩:=h;exact⟨undef,_,by simp only[OU,hd,h1,h2,zC,ho,f1],rfl,by simp[aA],P6 hx hg hi hl (hr.snoc hk hv cl)⟩;simp only[Nat.sub_zero]at f4 f6;simp only[hf,gG,f4]at h;rcases hke:toV d.key with _|kv';simp[hke]at h;simp only[hke]at h;have e1:=(u6 _ _ hke x d'.key).1 f7;rcases hveq:tP 50 kv' kv with _|_;simp[hveq]at h;simp only[hveq,zC,zA,zB]at h;obtain⟨rfl,rfl⟩:=h;exact⟨undef,_,by simp only[OU,hd,h1,h2,zC,ho,f1,gG,f6,e1,hveq],rfl,by simp[aA],P6 hx hg hi hl (hr.mod j hv)⟩
   |_=>simp[hg]at h
  |_=>simp[hd]at h
 |_=>simp[hd]at h
theorem qzq(h:Vz T x.σ t m k=some (r,σ'))(hm:aA x m mv)(hk:aA x k kv):∃rv y,UU T x.s t mv kv=some (rv,y.s)/\y.σ=σ'/\aA y r rv/\Out x y:=by
 unfold Vz at h;rcases hd:T.und t with _|d;simp[hd]at h;cases d with
 |map kt et=>
  cases m with
  |map q=>
   simp only[hd]at h;rcases hkv:toV k with _|kv0;simp[hkv]at h;simp only[hkv]at h;have e0:=(u6 _ _ hkv x kv).1 hk;subst e0;rcases h1:lS T 50 kt kv with _|_;simp[h1]at h;rcases h2:plain kv with _|_;simp[h1,h2]at h;simp only[h1,h2,zC]at h;rcases hg:gt x.σ.h q with _|b;simp[hg]at h;cases b with
   |map es cl=>
    simp only[hg]at h;obtain⟨i,es',hi,rfl,hl,hr,ho⟩:=Li hx (m:=.map q) hm hg;have B1:∀{y:Cx}{p:U}{p':Value}{n:Nat},aA y p p'->aA y (.tup [p,.int .i64 n]) (.tuple #[p',.int .i64 n]):=fun{y p p' n} hp=>by simp only[aA];exact⟨[p',.int .i64 n],rfl,by simp[c8,hp,aA],rfl⟩
    rcases hf:uP T kt kv es 0 with _|f;simp[hf]at h;rcases Aj 0 hr hf with⟨rfl,f1⟩|⟨j,u,w,rfl,f1,f2,f3,d,d',f4,f5,f6,f7,f8,f9⟩;simp only[hf]at h;rcases hinf:T.inf et with _|z;simp[hinf]at h;obtain⟨z1,z2,z⟩:=z;simp only[hinf]at h;rcases hz:fU z with _|zu;simp[hz]at h;simp only[hz,zA,zB]at h;obtain⟨rfl,rfl⟩:=h;exact⟨.tuple #[z,.int .i64 cl],_,by simp only[UU,hd,h1,h2,zC,ho,f1,hinf],rfl,B1 ((GG _ _ hz).2 _),P6 hx hg hi hl (hr.snoc hk ((GG _ _ hz).2 x) cl)⟩;simp only[Nat.sub_zero]at f4 f6;simp only[hf,gG,f4]at h;rcases hke:toV d.key with _|kv';simp[hke]at h;simp only[hke]at h;have e1:=(u6 _ _ hke x d'.key).1 f7;rcases hveq:tP 50 kv' kv with _|_;simp[hveq]at h;simp only[hveq,zC,zA,zB]at h;obtain⟨rfl,rfl⟩:=h;have hout:=P6 hx hg hi hl (cl1:=cl) hr;exact⟨.tuple #[w,.int .i64 d'.born],_,by simp only[UU,hd,h1,h2,zC,ho,f1,gG,f6,e1,hveq],rfl,by rw[f8];exact B1 (hout.mo.ke _ _ (aA.bel _ _ f2) f2),hout⟩
   |_=>simp[hg]at h
  |_=>simp[hd]at h
 |_=>simp[hd]at h
theorem z1r{st:U}{sv:Value}(h:Uo x.σ m st v=some (r,σ'))(hm:aA x m mv)(hs:aA x st sv)(hv:aA x v vv):∃rv y,ZH x.s mv sv vv=some (rv,y.s)/\y.σ=σ'/\aA y r rv/\Out x y:=by
 unfold Uo at h;cases m with
 |map q=>
  cases st with
  |int k b=>
   simp only at h;simp only[aA]at hs;subst hs;rcases hg:gt x.σ.h q with _|bb;simp[hg]at h;cases bb with
   |map es cl=>simp only[hg]at h;obtain⟨i,es',hi,rfl,hl,hr,ho⟩:=Li hx (m:=.map q) hm hg;rcases hb:XS b es 0 with _|j;simp[hb]at h;simp only[hb,zA,zB]at h;obtain⟨rfl,rfl⟩:=h;rw[bw 0 hr]at hb;exact⟨undef,_,by simp only[ZH,ho,hb],rfl,by simp[aA],P6 hx hg hi hl (hr.mod j hv)⟩
   |_=>simp[hg]at h
  |_=>simp at h
 |_=>simp at h
theorem za5(h:SS T x.σ t m k=some (r,σ'))(hm:aA x m mv)(hk:aA x k kv):∃rv y,y7 T x.s t mv kv=some (rv,y.s)/\y.σ=σ'/\aA y r rv/\Out x y:=by
 unfold SS at h;rcases hd:T.und t with _|d;simp[hd]at h;cases d with
 |map kt et=>
  cases m with
  |map q=>
   simp only[hd]at h;rcases hkv:toV k with _|kv0;simp[hkv]at h;simp only[hkv]at h;have e0:=(u6 _ _ hkv x kv).1 hk;subst e0;rcases h1:lS T 50 kt kv with _|_;simp[h1]at h;simp only[h1,zC]at h;rcases hg:gt x.σ.h q with _|b;simp[hg]at h;cases b with
   |map es cl=>simp only[hg]at h;obtain⟨i,es',hi,rfl,hl,hr,ho⟩:=Li hx (m:=.map q) hm hg;rcases hf:uP T kt kv es 0 with _|f;simp[hf]at h;rcases Aj 0 hr hf with⟨rfl,f1⟩|⟨j,u,w,rfl,f1,_⟩;simp only[hf,zA,zB]at h;obtain⟨rfl,rfl⟩:=h;exact⟨undef,_,by simp only[y7,hd,h1,zC,ho,f1],rfl,by simp[aA],P6 hx hg hi hl hr⟩;simp only[hf,zA,zB]at h;obtain⟨rfl,rfl⟩:=h;exact⟨undef,_,by simp only[y7,hd,h1,zC,ho,f1],rfl,by simp[aA],P6 hx hg hi hl (hr.erase j)⟩
   |_=>simp[hg]at h
  |_=>simp[hd]at h
 |_=>simp[hd]at h
theorem z6f{d s:U}{dv sv:Value}(h:Tw T x.σ t d s=some (r,σ'))(hd':aA x d dv)(hs':aA x s sv):∃rv y,XQ T x.s t dv sv=some (rv,y.s)/\y.σ=σ'/\aA y r rv/\Out x y:=by
 unfold Tw at h;rcases hd:T.und t with _|dd;simp[hd]at h;cases dd with
 |slice e=>
  simp only[hd]at h;rcases hs:bZ T e with _|sz;simp[hs]at h;simp only[hs]at h;rcases hsrc:rC x.σ sz s with _|q;simp[hsrc]at h;obtain⟨k,cs⟩:=q;simp only[hsrc]at h;cases d with
  |sl a off n c=>
   simp only at h;rcases hrow:rowOf x.σ a with _|l;simp[hrow]at h;simp only[hrow]at h;split at h;cases h;rename_i hpos;have hpos':0<n/\0<k/\0<sz:=by omega
   obtain⟨b,c0,vs,_,hsv,hc,hr,hk⟩:=Lt hx hpos'.2.2 hsrc hs';obtain rfl:sv=.slice b k c0:=by rcases hsv with hsv |⟨h0,_⟩;exact hsv;omega
   have hlen:=yu hsrc;rcases hput:mQ l off (cs.take (Nat.min k n*sz))with _|l1;simp[hput]at h;simp only[hput]at h;obtain⟨e',hg,hl⟩:=Yl hrow;obtain⟨i,hi,rfl,_⟩:=GR hl hd';obtain⟨_,k1,i',lv,e1,e2,e3⟩:=hx.ok a _ hg;rw[hi]at e1;cases e1;simp only[ED,hg,zA,zB]at h;obtain⟨rfl,rfl⟩:=h;have hmn:Nat.min k n*sz<=k*sz:=Nat.mul_le_mul_right _ (Nat.min_le_left _ _);have hmp:0<Nat.min k n*sz:=Nat.mul_pos (by simp[Nat.min_def];split<;>omega) hpos'.2.2;have hcells:mF x.s b (Nat.min k n*sz)=some (vs.take (Nat.min k n*sz)):=by obtain⟨q1,I5⟩:∃q,k*sz=q+1:=⟨k*sz-1,by have:=Nat.mul_pos hpos'.2.1 hpos'.2.2;omega⟩;obtain⟨q2,hq2⟩:∃q,Nat.min k n*sz=q+1:=⟨Nat.min k n*sz-1,by omega⟩;rw[I5]at hc;rw[hq2];unfold mF at hc ⊢;rcases b with _|a;simp at hc;simp only at hc ⊢;rcases hlk:lk x.s.h a.block with _|bb;simp[hlk]at hc;rcases bb with⟨l0,e0,md0⟩|⟨m0,c1⟩;simp only[hlk]at hc ⊢;obtain⟨s1,s2⟩:=ZY hc;rw[s1,ZB (by omega),List.take_take];congr 2;omega;simp[hlk]at hc
   have hrt:=hr.take (Nat.min k n*sz);have hkt:=GW hk (Nat.min k n*sz);obtain⟨rv,p1,p2,p3⟩:=Lw hput e3 hrt;have hown:c9 x.s i=some (lv,e',0):=by simp[c9,e2]
   refine⟨.int .i64 (Nat.min k n),⟨x.ρ,⟨ug x.σ.h a (.row l1 e'),x.σ.nx⟩,⟨up x.s.h i (.inl (rv,e',0)),x.s.nx⟩⟩,?_,rfl,by simp[aA],UZ hx hg hi e2 rfl (by simp) fun y h1 h2 hm=>⟨p3 k1 hkt,i,rv,h1,h2,hm.ke.E p2.bel p2⟩⟩;simp only[XQ,hd,hs,hcells,K6 hrt hkt,zC];cases hv:vs.take (Nat.min k n*sz)with
   |nil=>exfalso;have h1:=hrt.2;rw[hv]at h1;have h2:cs.length=k*sz:=hlen;rw[List.length_take,h2,Nat.min_eq_left hmn]at h1;simp only[zS]at h1;omega|cons v0 XZ=>rw[hv]at p1;simp only[hown,p1]
  |_=>simp at h
 |_=>simp[hd]at h
theorem qvq{xt:TypeId}{a b:U}{va vb:Value}(h:Xm T x.σ t xt a b=some (r,σ'))(ha:aA x a va)(hb:aA x b vb):∃v y,P9 T x.s t xt va vb=some (v,y.s)/\y.σ=σ'/\aA y r v/\Out x y:=by
 unfold Xm at h;split at h;rename_i e kd kd' i hd cK;simp only[aA]at ha hb;subst ha;subst hb;split at h;rename_i sz by_ z hi;split at h;rename_i zu hz;split at h;rename_i hc;obtain⟨c1,c2,c3,c4,c5⟩:=hc;simp only[zA,zB]at h;obtain⟨rfl,rfl⟩:=h;obtain⟨k,hk⟩:∃k,i.toNat=k+1:=⟨i.toNat-1,by omega⟩;have hw:IntKind.i64.wrap i=Int.ofNat (k+1):=by rw[wrap_i64 (by omega) (by omega),<-hk];simp;omega
 have hzr:=(GP _ _ hz).2 x;have hrel:aX x (qK zu (k+1)) (bR z.cells.toList (k+1)):=V5 hzr (k+1);have hok:okL (qK zu (k+1))=true:=Wi c5 _;have h1:=K6 hrel hok;have hroom:sV (k+1) by_=true:=Aa (by rw[<-hk];exact c2) (by rw[<-hk];exact c3);have hb:Nat.beq z.cells.toList.length (sz+1)=true:=by simp[beq_eq,c4]
 rw[hk];refine⟨.slice (some ⟨x.s.nx,0,none⟩) (k+1) bL,_,?_,rfl,Ng,Nl hx (ZN hrel) (by rw[U7];exact hok) e (by omega)⟩;have hn:qM T x.s t xt (.slice none 0 0) (.int kd' i)=none:=by simp[qM,uE,sX,sD,hd,cK]
 simp only[P9,hn,Mf,hd,cK,hi,hw,hroom,hb,h1,zC];rfl;cases h;cases h;cases h;cases h
theorem qvr{xt:TypeId}{a b:U}{va vb:Value}(h:Mt T x.σ t xt a b=some (r,σ'))(ha:aA x a va)(hb:aA x b vb):∃v y,P9 T x.s t xt va vb=some (v,y.s)/\y.σ=σ'/\aA y r v/\Out x y:=by
 unfold Mt at h;split at h;rename_i q hq;cases h;obtain⟨v,y,h1,h2,h3,h4⟩:=qz8 hx hq ha hb;exact⟨v,y,by simp only[P9,h1],h2,h3,h4⟩;exact qvq hx h ha hb
theorem z1l{d:U}{dv:Value}(h:Uq T x.σ t d=some (r,σ'))(hd':aA x d dv):∃rv y,P0 T x.s t dv=some (rv,y.s)/\y.σ=σ'/\aA y r rv/\Out x y:=by
 unfold Uq at h;rcases hd:T.und t with _|dd;simp[hd]at h;cases dd with
 |slice e=>
  simp only[hd]at h;rcases hi:T.inf e with _|q;simp[hi]at h;obtain⟨sz,by_,z⟩:=q;simp only[hi]at h;rcases hz:mR z.cells.toList with _|zu;simp[hz]at h;simp only[hz]at h;have hzr:=(GP _ _ hz).2 x;rcases hok:okL zu with _|_;simp[hok]at h;rw[hok]at h;rcases hlen:Nat.beq z.cells.toList.length sz with _|_;rw[hlen]at h;cases h;rw[hlen]at h;simp only[zC]at h;have hzl:zu.length=sz:=by rw[hzr.2];simpa[beq_eq]using hlen
  have hzr:=ZN hzr;have hzl:(nU zu).length=sz:=by rw[Ls];exact hzl
  cases d with
  |nils=>simp only[zA,zB]at h;obtain⟨rfl,rfl⟩:=h;simp only[aA]at hd';subst hd';exact⟨undef,x,by simp[P0,hd],rfl,by simp[aA],Out.refl hx⟩
  |vl k st off n=>
   simp only at h;rcases hv:rD x.σ k st with _|q;simp[hv]at h;obtain⟨l,e',sz'⟩:=q;simp only[hv]at h;rcases hs:Nat.beq sz' sz with _|_;simp[hs]at h;have hs':sz'=sz:=by simpa[beq_eq]using hs
   subst hs';simp only[hs,zC]at h;obtain⟨hg,hl⟩:=Nd hv;simp only at hg;obtain⟨l2,e2,sz2,FK,hvo⟩:=P7 hl hd';rw[hg]at FK;cases FK;by_cases hn:n=0;simp only[hn,if_true,zA,zB]at h;obtain⟨rfl,rfl⟩:=h;obtain⟨a,c,rfl⟩:=Ty hvo;subst hn;exact⟨undef,x,by simp[P0,hd],rfl,by simp[aA],Out.refl hx⟩;simp only[hn,if_false]at h;rcases hp:mQ l (off*sz') (qK (nU zu) n)with _|l1;simp[hp]at h;simp only[hp,zA,zB]at h;obtain⟨rfl,rfl⟩:=h;obtain⟨_,k1,k2,k3⟩:=hx.ok k _ hg;rcases k3 with⟨rfl,hno⟩|⟨i,lv,LL,FJ,LK⟩;exfalso;have:=(eo hp).1;simp only[qK,List.length_flatten,List.map_replicate,List.sum_replicate_nat,hzl,zS]at this;have:=Nat.mul_pos (Nat.pos_of_ne_zero hn) k2;omega;rw[LL]at hvo;simp only[DZ]at hvo;rcases hvo with⟨_,h0,_⟩|rfl;exact absurd h0 hn;obtain⟨rv,p1,p2,p3⟩:=Lw hp LK (V5 hzr n);obtain⟨n',rfl⟩:∃n',n=n'+1:=⟨n-1,by omega⟩;have hzo:=Wi (zu:=nU zu) (by rw[U7];exact hok) (n'+1);have h1:=K6 (V5 hzr (n'+1)) hzo;have hown:c9 x.s i=some (lv,e',sz'+2):=by simp[c9,FJ]
   refine⟨undef,⟨x.ρ,⟨ug x.σ.h k (.vec l1 e' sz' st),x.σ.nx⟩,⟨up x.s.h i (.inl (rv,e',sz'+2)),x.s.nx⟩⟩,?_,rfl,by simp[aA],UZ hx hg LL FJ rfl (by rintro l e sz st h;cases h;exact⟨_,rfl⟩) fun y h1 h2 hm=>⟨p3 k1 hzo,k2,.inr ⟨i,rv,h1,h2,hm.ke.E p2.bel p2⟩⟩⟩;simp only[P0,hd,hi,h1,zC,hown,p1]
  |_=>simp at h
 |_=>simp[hd]at h
theorem za6{tm:List U}{tv:List Value}(ht:aX x tm tv){op:Op}{u:U}(h:kL T x.σ tm op=some (u,σ')):o7 T x tv op u σ':=by
 have fin:∀{v:Value}{y:Cx},gA T tv op=none->kP T tv x.s op=none->oZ T tv x.s op=some (v,y.s)->y.σ=σ'->aA y u v->Out x y->o7 T x tv op u σ':=fun{v y} h1 h2 h3 h4 h5 h6=>⟨v,y,gg h1 h2 h3,h4,h5,h6⟩;unfold kL at h;cases op with
 |alloc e=>simp only at h;rcases hi:T.inf e with _|q;simp[hi]at h;obtain⟨a,b,z⟩:=q;simp only[hi]at h;rcases hz:mR z.cells.toList with _|zu;simp[hz]at h;simp only[hz]at h;rcases hk:okL zu with _|_;simp[hk]at h;simp only[hk,zC,zA,zB]at h;obtain⟨rfl,rfl⟩:=h;exact fin (v:=.pointer (some ⟨x.s.nx,0,none⟩)) rfl rfl (by simp only[oZ,hi]) rfl (by simp only[aA];exact⟨rfl,ZR rfl ⟨_,rfl,rfl⟩⟩) (Nn hx ((GP _ _ hz).2 x) hk e)
 |box e o=>simp only at h;rcases ho:bP tm o with _|a;simp[ho]at h;simp only[ho]at h;obtain⟨va,a1,a2⟩:=gK ht ho;rcases hc:sC a with _|cs;simp[hc]at h;simp only[hc]at h;obtain⟨c1,c2⟩:=Yf a2 hc;simp only[c2,zC,zA,zB]at h;obtain⟨rfl,rfl⟩:=h;exact fin (v:=.pointer (some ⟨x.s.nx,0,none⟩)) rfl rfl (by simp only[oZ,a1]) rfl (by simp only[aA];exact⟨rfl,ZR rfl ⟨_,rfl,rfl⟩⟩) (Nn hx c1 c2 e)
 |store t a b=>simp only at h;rcases ha:bP tm a with _|au;simp[ha]at h;rcases hb:bP tm b with _|bu;simp[ha,hb]at h;simp only[ha,hb]at h;obtain⟨va,a1,a2⟩:=gK ht ha;obtain⟨vb,b1,b2⟩:=gK ht hb;obtain⟨v,y,h1,h2,h3,h4⟩:=z54 hx h a2 b2;exact fin rfl rfl (by simp only[oZ,a1,b1,h1]) h2 h3 h4
 |buildSlice t n ps=>simp only at h;rcases hp:tY tm ps.toList with _|qs;simp[hp]at h;simp only[hp]at h;obtain⟨vs,h1,h2⟩:=Yd ht hp;obtain⟨v,y,h3,h4,h5,h6⟩:=quh hx h h2;exact fin rfl rfl (by simp only[oZ,h1,h3]) h4 h5 h6
 |makeSlice t a b=>simp only at h;rcases ha:bP tm a with _|au;simp[ha]at h;rcases hb:bP tm b with _|bu;simp[ha,hb]at h;simp only[ha,hb]at h;obtain⟨va,a1,a2⟩:=gK ht ha;obtain⟨vb,b1,b2⟩:=gK ht hb;obtain⟨v,y,h1,h2,h3,h4⟩:=z74 hx h a2 b2;exact fin rfl rfl (by simp only[oZ,a1,b1,h1]) h2 h3 h4
 |makeMap t r=>
  cases r with
  |none=>simp only[zA,zB]at h;obtain⟨rfl,rfl⟩:=h;exact fin (v:=.map (some x.s.nx)) rfl rfl (by simp only[oZ]) rfl (by simp only[aA];exact⟨rfl,ZR rfl ⟨_,rfl,rfl⟩⟩) (Wn hx (.map [] 0) (.inr ([],0)) fun y h1 h2 hm=>⟨_,[],h1,h2,rfl,by simp⟩)
  |some r=>simp at h
 |mapUpdate t m k v=>simp only at h;rcases hm:bP tm m with _|mu;simp[hm]at h;rcases hk:bP tm k with _|ku;simp[hm,hk]at h;rcases hv:bP tm v with _|vu;simp[hm,hk,hv]at h;simp only[hm,hk,hv]at h;obtain⟨va,a1,a2⟩:=gK ht hm;obtain⟨vb,b1,b2⟩:=gK ht hk;obtain⟨vc,c1,c2⟩:=gK ht hv;obtain⟨w,y,h1,h2,h3,h4⟩:=er hx h a2 b2 c2;exact fin rfl rfl (by simp only[oZ,a1,b1,c1,h1]) h2 h3 h4
 |insert t m k v=>simp only at h;rcases hm:bP tm m with _|mu;simp[hm]at h;rcases hk:bP tm k with _|ku;simp[hm,hk]at h;rcases hv:bP tm v with _|vu;simp[hm,hk,hv]at h;simp only[hm,hk,hv]at h;obtain⟨va,a1,a2⟩:=gK ht hm;obtain⟨vb,b1,b2⟩:=gK ht hk;obtain⟨vc,c1,c2⟩:=gK ht hv;obtain⟨w,y,h1,h2,h3,h4⟩:=er hx h a2 b2 c2;exact fin rfl rfl (by simp only[oZ,a1,b1,c1,h1]) h2 h3 h4
 |mapEntry t m k=>simp only at h;rcases hm:bP tm m with _|mu;simp[hm]at h;rcases hk:bP tm k with _|ku;simp[hm,hk]at h;simp only[hm,hk]at h;obtain⟨va,a1,a2⟩:=gK ht hm;obtain⟨vb,b1,b2⟩:=gK ht hk;obtain⟨w,y,h1,h2,h3,h4⟩:=qzq hx h a2 b2;exact fin rfl rfl (by simp only[oZ,a1,b1,h1]) h2 h3 h4
 |entryStore t m k v=>simp only at h;rcases hm:bP tm m with _|mu;simp[hm]at h;rcases hk:bP tm k with _|ku;simp[hm,hk]at h;rcases hv:bP tm v with _|vu;simp[hm,hk,hv]at h;simp only[hm,hk,hv]at h;obtain⟨va,a1,a2⟩:=gK ht hm;obtain⟨vb,b1,b2⟩:=gK ht hk;obtain⟨vc,c1,c2⟩:=gK ht hv;obtain⟨w,y,h1,h2,h3,h4⟩:=z1r hx h a2 b2 c2;exact fin rfl rfl (by simp only[oZ,a1,b1,c1,h1]) h2 h3 h4
 |call c=>
  simp only at h;obtain⟨callee,args,ats⟩:=c;cases callee with
  |builtin b=>
   have two:∀{us:List U}{a b:U},jJ tm args.toList=some us->us=[a,b]->∃va vb,iH tv args.toList=some [va,vb]/\aA x a va/\aA x b vb:=fun{us a b} h1 h2=>by subst h2;obtain⟨vs,a1,a2⟩:=H5 ht h1;obtain⟨va,vs',rfl,r1,r2⟩:=a2.inv;obtain⟨vb,vs'',rfl,r3,r4⟩:=r2.inv;rw[r4.nil_inv]at a1;exact⟨va,vb,a1,r1,r3⟩
   cases b with
   |append=>simp only at h;split at h;rename_i a b t xt h1 h2;obtain⟨va,vb,e1,r1,r2⟩:=two h1 rfl;obtain⟨w,y,q1,q2,q3,q4⟩:=qvr hx h r1 r2;exact fin (by simp only[gA]) (by simp only[kP]) (by simp only[oZ,e1,h2,q1]) q2 q3 q4;cases h
   |copy=>simp only at h;split at h;rename_i a b t ts h1 h2;obtain⟨va,vb,e1,r1,r2⟩:=two h1 rfl;obtain⟨w,y,q1,q2,q3,q4⟩:=z6f hx h r1 r2;exact fin (by simp only[gA]) (by simp only[kP]) (by simp only[oZ,e1,h2,q1]) q2 q3 q4;cases h
   |delete=>simp only at h;split at h;rename_i a b t ts h1 h2;obtain⟨va,vb,e1,r1,r2⟩:=two h1 rfl;obtain⟨w,y,q1,q2,q3,q4⟩:=za5 hx h r1 r2;exact fin (by simp only[gA]) (by simp only[kP]) (by simp only[oZ,e1,h2,q1]) q2 q3 q4;cases h
   |clear=>simp only at h;split at h;rename_i a t ts h1 h2;obtain⟨vs,a1,a2⟩:=H5 ht h1;obtain⟨va,vs',rfl,r1,r2⟩:=a2.inv;rw[r2.nil_inv]at a1;obtain⟨w,y,q1,q2,q3,q4⟩:=z1l hx h r1;exact fin (by simp only[gA]) (by simp only[kP]) (by simp only[oZ,a1,h2,q1]) q2 q3 q4;cases h
   |_=>simp at h
  |_=>simp at h
 |_=>simp at h
theorem QO{tm:List U}{tv:List Value}(ht:aX x tm tv){op:Op}{u:U}(h:bB T x.σ tm op=some (u,σ')):o7 T x tv op u σ':=by
 unfold bB at h;cases h1:eU T x.σ tm op with
 |some v=>simp only[h1,zA,zB]at h;obtain⟨rfl,rfl⟩:=h;exact z7i hx ht h1
 |none=>simp only[h1]at h;rcases h2:kI T x.σ tm op with _|v;simp only[h2]at h;exact za6 hx ht h;simp only[h2,zA,zB]at h;obtain⟨rfl,rfl⟩:=h;exact pw hx ht h2
omit hx in
theorem br{tm:List U}{tv:List Value}(ht:aX x tm tv){op:Op}{f:FuncId}{args:List U}(h:i9 T tm op=some (f,args)):∃vs,callOf T tv op=some (f,vs)/\aX x args vs:=by
 unfold i9 at h;cases op with
 |call c=>
  simp only at h;obtain⟨callee,as,ats⟩:=c;cases callee with
  |value o=>
   simp only at h;rcases ho:bP tm o with _|a;simp[ho]at h;obtain⟨va,a1,a2⟩:=gK ht ho;cases a with
   |fn fn first cap=>
    cases fn with
    |func g=>simp only[ho]at h;simp only[aA]at a2;obtain⟨p,q,rfl,r1,r2,r3,r4⟩:=a2;rcases hg:T.fn g with _|fd;simp[hg]at h;simp only[hg]at h;rcases hbd:fd.body.isSome with _|_;simp[hbd]at h;simp only[hbd,zC]at h;rcases hl:jJ tm as.toList with _|us;simp[hl]at h;simp only[hl,zA,zB]at h;obtain⟨rfl,rfl⟩:=h;obtain⟨vs,e1,e2⟩:=H5 ht hl;exact⟨p++vs++q,by simp only[callOf,a1,hg,hbd,zC,e1],((show aX x first p from⟨r1,r2⟩).append e2).append ⟨r3,r4⟩⟩
    |_=>simp[ho]at h
   |_=>simp[ho]at h
  |_=>simp at h
 |_=>simp at h
end
end Go.Vx
