import Derived.Test.YtmflfedkfdkipaaGreatP18
set_option linter.all false
namespace Go.Proofs
open Go Go.Rx Go.Vx
set_option maxRecDepth 10000
def KL(k:Nat)(x:aO):aO:=⟨x.Typex,x.Arcs.map (EX k)⟩
def qyt{p1 p2:X aO}{z:Nat}{l10:X aO}{rc:Int->X aO->V (X aO)}{x:aO}(hz:p2[z]? = some x)(hx:x.Arcs.length<=1200)(hp:p1.length<=1000)(pS:∀a∈x.Arcs,0<=a.To/\a.To<1000):∀(m i:Nat),x.Arcs.length-i<m->i<=x.Arcs.length->
  Ir p1 p2 (z:Int) l10 rc x m (i:Int) ((x.Arcs.take i).map (EX p1.length))=Ra (z:Int) l10 rc x (x.Arcs.map (EX p1.length))
 |0,i,hm,_=>by omega
 |m+1,i,hm,hi=>by
  unfold Ir;by_cases aE:i<x.Arcs.length;obtain⟨a,ha,BL⟩:=fP aE;simp only[cP,hz,aM,jB aE,zC,ha,kX aE (show x.Arcs.length<=9223372036854775807 by omega)];rw[fW (by simp only[yA,List.length_take];omega)];have hw:=da (pS a BL) (k:=p1.length) qq0;rw[hw];have:=qyt (l10:=l10) (rc:=rc) hz hx hp pS m (i+1) qq0 qq0;rw[jG ha,List.map_append]at this;exact this;have:i=x.Arcs.length:=by omega
  subst this;simp only[cP,hz,aM,jV aE,zD,List.take_length]
def qys{p1 p2:X aO}(hp:p1.length<=1000)(nL:p2.length<=1000)(hx:∀x∈p2,x.Arcs.length<=1200/\∀a∈x.Arcs,0<=a.To/\a.To<1000){n:Nat}(hn:1300<=n):∀(m i:Nat),p2.length-i<m->i<=p2.length->
  NX p1 p2 n m (i:Int) (p1++(p2.take i).map (KL p1.length))=some (p1++p2.map (KL p1.length))
 |0,i,hm,_=>by omega
 |m+1,i,hm,hi=>by
  unfold NX;by_cases aE:i<p2.length;obtain⟨x,TU,g8⟩:=fP aE;obtain⟨h1,h2⟩:=hx x g8;simp only[jB aE,zC,cP,TU,aM];have:=qyt (l10:=p1++(p2.take i).map (KL p1.length)) (rc:=NX p1 p2 n m) TU h1 hp h2 n 0 qq0 qq0;rw[zV,List.take_zero,List.map_nil]at this;rw[this,Ra,fW (by simp only[zU,yA,List.length_take];omega),kX aE qq0];have ih:=qys hp nL hx hn m (i+1) qq0 qq0;rw[jG TU,List.map_append,<-zT]at ih;exact ih;have:i=p2.length:=by omega
  subst this;simp only[jV aE,zD,yi,List.take_length]
variable{n:Nat}
def z8w{p1 p2:X aO}(hp:p1.length<=1000)(nL:p2.length<=1000)(hx:∀x∈p2,x.Arcs.length<=1200/\∀a∈x.Arcs,0<=a.To/\a.To<1000)(hn:2000<=n):Hy n p1 p2=some (p1++p2.map (KL p1.length)):=by have:=qys hp nL hx (n:=n) qq0 n 0 qq0 qq0;rw[zV,List.take_zero,List.map_nil,List.append_nil]at this;rw[Hy,fW qq0,this]
structure CK(N:Nat)(cl:X Int)(r:Nat->Nat):Prop where
 len:cl.length=N
 get:∀i,i<N->cl[i]? = some (r i:Int)
 le:∀i,i<N->r i<=i
 idem:∀i,i<N->r (r i)=r i
variable{N:Nat}
variable{cl:X Int}
variable{r:Nat->Nat}
def CK.lt(h:CK N cl r){i:Nat}(hi:i<N):r i<N:=by have:=h.le i hi;omega
def CK.at(h:CK N cl r){v:Int}(hv:0<=v/\v<(N:Int)):aB cl v=some (r v.toNat:Int):=by rw[show v=((v.toNat:Nat):Int) by omega,cP,h.get _ qq0,zZ]
def lX(lo hi:Int)(l:X Int):X Int:=l.map fun x=>if x==hi then lo else x
def qyl{N:Nat}(hN:N<=1000000):∀(m i:Nat),N-i<m->i<=N->Jb (N:Int) m (i:Int) (A9 0 i)=some (A9 0 N)
 |0,i,hm,_=>by omega
 |m+1,i,hm,hi=>by
  unfold Jb;by_cases aE:i<N;simp only[jB aE,zC,kX aE (show N<=9223372036854775807 by omega)];rw[fW (by rw[iy];omega)];have:=qyl hN m (i+1) qq0 qq0;rw[z6b,Nat.zero_add]at this;exact this;have:i=N:=by omega
  subst this;simp only[jV aE,zD,lq]
def quf(hN:N<=1000000)(hn:N<n):Ie n (N:Int)=some (A9 0 N):=by have:=qyl hN n 0 qq0 qq0;rw[zV]at this;exact this
def qm7{v12:Type}(a b:X v12)(x y:v12)(k:Nat)(h:a.length=k):(a++x::b).set (0+k) y=a++y::b:=by subst h;simp
def xl(lo hi:Int)(a b:X Int):lX lo hi (a++b)=lX lo hi a++lX lo hi b:=List.map_append
def QU{lo hi x:Int}(h:(x==hi)=true):lX lo hi [x]=[lo]:=by simp only[lX,zQ,List.map_nil,h,if_true]
def QV{lo hi x:Int}(h:(x==hi)=false):lX lo hi [x]=[x]:=by simp only[lX,zQ,List.map_nil,h];rfl
def qvl{x4 x6 x8 x10:Int}:∀(m:Nat)(a b:X Int),b.length<m->a.length+b.length<=1000000->
  O6 x4 x6 x8 x10 m (a.length:Int) (lX (if x6<x4 then x6 else x4) (if x10>x8 then x10 else x8) a++b)=some (lX (if x6<x4 then x6 else x4) (if x10>x8 then x10 else x8) (a++b))
 |0,a,b,hm,_=>by omega
 |m+1,a,[],hm,hl=>by
  unfold O6;have:decide (((a.length:Nat):Int)<((lX (if x6<x4 then x6 else x4) (if x10>x8 then x10 else x8) a++[]).length:Int))=false:=by simp[lX]
  rw[this,zD,ln,List.append_nil,List.append_nil]
 |m+1,a,x::b,hm,hl=>by
  simp only[zO]at hm hl;unfold O6;have h1:decide (((a.length:Nat):Int)<((lX (if x6<x4 then x6 else x4) (if x10>x8 then x10 else x8) a++x::b).length:Int))=true:=by simp[lX];omega
  have h2:(lX (if x6<x4 then x6 else x4) (if x10>x8 then x10 else x8) a++x::b)[a.length]? = some x:=by rw[List.getElem?_append_right (by simp[lX])];simp[lX]
  have hw:IntKind.i64.wrap ((a.length:Int)+1)=((a.length+1:Nat):Int):=by rw[wr qq0 qq0];simp
  have ih:=qvl (x4:=x4) (x6:=x6) (x8:=x8) (x10:=x10) m (a++[x]) b qq0 (by simp only[zU,zO,zS];omega);simp only[zU,zO,zS,Nat.zero_add]at ih;simp only[h1,zC,cP,h2,aM,zZ,Rn,hw];have e3:a++[x]++b=a++x::b:=by simp
  by_cases e:(x==(if x10>x8 then x10 else x8))=true;rw[xl,QU e,zT,List.cons_append,List.nil_append]at ih;rw[e,zC,qm7 _ _ _ _ _ (by simp[lX]),ih,e3];rw[Bool.not_eq_true]at e;rw[xl,QV e,zT,List.cons_append,List.nil_append]at ih;rw[e,zD,ih,e3]
variable{a:Nat}
variable{b:Nat}
def Lp:(if(b:Int)<(a:Int)then(b:Int)else(a:Int))=((min a b:Nat):Int):=by split;rw[Nat.min_eq_right qq0];rw[Nat.min_eq_left qq0]
def ze:(if(b:Int)>(a:Int)then(b:Int)else(a:Int))=((max a b:Nat):Int):=by split;rw[Nat.max_eq_right qq0];rw[Nat.max_eq_left qq0]
def CK.mrg(h:CK N cl r)(ha:a<N)(hb:b<N):CK N (lX ((min (r a) (r b):Nat):Int) ((max (r a) (r b):Nat):Int) cl) (fZ r (min (r a) (r b)) (max (r a) (r b))):=by
 have ia:=h.idem a ha;have ib:=h.idem b hb;have ba:r (min (r a) (r b))=min (r a) (r b):=by rcases Nat.le_total (r a) (r b)with h1 |h1;rw[Nat.min_eq_left h1,ia];rw[Nat.min_eq_right h1,ib]
 refine⟨by simp[lX,h.len],fun i hi=>?_,fun i hi=>?_,fun i hi=>?_⟩;simp only[lX,List.getElem?_map,h.get i hi,zM,zA];unfold fZ;by_cases e:r i=max (r a) (r b);rw[if_pos e,e];simp;rw[if_neg e];have:((r i:Int)==((max (r a) (r b):Nat):Int))=false:=by simp only[beq_eq_false_iff_ne,ne_eq];omega
 rw[this];rfl
 ·have:=h.le i hi;unfold fZ;split
  ·next e=>omega
  exact this
 have:=h.idem i hi;unfold fZ;by_cases e:r i=max (r a) (r b);rw[if_pos e,ba];split<;>rfl;rw[if_neg e,this,if_neg e]
def z2k(h:CK N cl r)(hN:N<=1000000){a b:Int}(ha:0<=a/\a<(N:Int))(hb:0<=b/\b<(N:Int))(hn:N<n):
  Qh n cl a b=some (lX ((min (r a.toNat) (r b.toNat):Nat):Int) ((max (r a.toNat) (r b.toNat):Nat):Int) cl):=by have hl:=h.len;simp only[Qh,h.at ha,h.at hb,aM];rw[fW qq0];have:=qvl (x4:=(r a.toNat:Int)) (x6:=(r b.toNat:Int)) (x8:=(r a.toNat:Int)) (x10:=(r b.toNat:Int)) n [] cl qq0 (by simp only[zS];omega);simp only[zS,lX,List.map_nil,List.nil_append,zV]at this;rw[this,Lp,ze];rfl
def qwo{l:X aR}{f:Int}(hl:l.length<=1000000):∀(m i:Nat),l.length-i<m->i<=l.length->Ji l f m (i:Int)=some (match (l.drop i).find? fun x=>x.Feat==f with |some x=>(x.To,true)|none=>(0,false))
 |0,i,hm,_=>by omega
 |m+1,i,hm,hi=>by unfold Ji;by_cases aE:i<l.length;obtain⟨x,hx,_⟩:=fP aE;simp only[jB aE,zC,cP,hx,aM,kX aE (show l.length<=9223372036854775807 by omega),aX hx,List.find?_cons];rcases e:x.Feat==f with _|_;simp only[zD];exact qwo hl m (i+1) qq0 qq0;simp only[zC];simp only[jV aE,zD,bW aE,uq,List.find?_nil]
def z35{l:X aR}{f:Int}(hl:l.length<=1000000)(hn:l.length<n):ye n l f=some (match l.find? fun x=>x.Feat==f with |some x=>(x.To,true)|none=>(0,false)):=by have:=qwo (f:=f) hl n 0 qq0 qq0;rw[zV,List.drop_zero]at this;exact this
def ua(q:m6):Int×Int:=(q.E0,q.E1)
def qus{a b:X aR}(ha:jC a)(hb:jC b):jC (a++oK a b):=by unfold jC at*;rw[List.pairwise_append];refine⟨ha,hb.filter _,fun x hx y hy e=>?_⟩;have:=(List.mem_filter.1 hy).2;have h2:DF a y.Feat=true:=YK.2 ⟨x,hx,e⟩;rw[h2]at this;cases this
def w5{cells:X Gcell}{m n:Nat}{x y:Gcell}(hx:cells[m]? = some x)(hy:cells[n]? = some y)(LW:m≠n)(t:Int){o:X aR}{k:Nat}(ho:o.length+k=x.arcs.length+y.arcs.length):
  tot (MB cells m n t o)+k=tot cells:=by
 have h1:=xk ⟨-1,t,o⟩ hx;have qJ:(cells.set m ⟨-1,t,o⟩)[n]? = some y:=by rw[List.getElem?_set_ne LW];exact hy
 have h2:=xk ⟨(m:Int),0,[]⟩ qJ;simp only[MB,zS]at*;omega
def xx{v12:Type}{l:X v12}{N i:Nat}(hi:i<N){x:v12}(hx:l[i]? = some x):i9 l 0 ((N:Int).toNat) (i:Int)=some x:=by rw[i9,if_pos (by simp only[zZ];omega),Nat.zero_add,zZ,hx]
def z79{p1:X aO}{n:Nat}{z:Int}{A:X (X aR)}{rc:Int->X m6->X (X aR)->X Int->V (X Int)}{x y:Nat}{out:X Int}{a b:X aR}(hx:x<p1.length)(hy:y<p1.length)
  (ha:A[min x y]? = some a) (hb:A[max x y]? = some b) (Wv:jC a) (lU:a.length<=400000) (zP:b.length<=400000) (hn:1000000<=n) {T:X m6} (hT:T.length<=1000000):∀(m k:Nat),b.length-k<m->k<=b.length->
  SC p1 n z A rc (x:Int) (y:Int) (x:Int) (y:Int) out m (k:Int) (a++oK a (b.take k)) (T++(prs a (b.take k)).map pk)=
   Ro p1 z A rc (x:Int) (y:Int) out (a++oK a b) (T++(prs a b).map pk)
 |0,k,hm,_=>by omega
 |m+1,k,hm,hk=>by
  unfold SC;have h1:i9 A 0 ((p1.length:Int).toNat) (if(y:Int)>(x:Int)then(y:Int)else(x:Int))=some b:=by rw[ze];exact xx qq0 hb
  have h2:i9 A 0 ((p1.length:Int).toNat) (if(y:Int)<(x:Int)then(y:Int)else(x:Int))=some a:=by rw[Lp];exact xx qq0 ha
  have vO:=Ou a (b.take k);have eW:(b.take k).length<=k:=by rw[List.length_take];omega
  simp only[h1,aM];by_cases aE:k<b.length;obtain⟨v,hv,yV⟩:=fP aE;simp only[jB aE,zC,cP,hv,aM,h2,z35 (f:=v.Feat) (show a.length<=1000000 by omega) (show a.length<n by omega),kX aE (show b.length<=9223372036854775807 by omega),Rt];have ih:=z79 (z:=z) (rc:=rc) (out:=out) hx hy ha hb Wv lU zP hn hT m (k+1) qq0 qq0;rw[jG hv,z0e]at ih;cases hf:a.find? (fun w=>w.Feat==v.Feat)with
  |some w=>
   have hw:=List.mem_of_find?_eq_some hf;have ON:w.Feat=v.Feat:=by have:=List.find?_some hf;simpa using this
   have hh:DF a v.Feat=true:=YK.2 ⟨w,hw,ON⟩;rw[qtl Wv hw ON,hh]at ih;simp only[zC];rw[fW (by simp only[zU,yA];omega)];rw[<-ih];simp[pk]
  |none=>
   have eT:∀w∈a,w.Feat≠v.Feat:=fun w hw e=>by have:=List.find?_eq_none.1 hf w hw;simp[e]at this
   have hh:DF a v.Feat=false:=by rw[Bool.eq_false_iff];intro e;obtain⟨w,hw,e⟩:=YK.1 e;exact eT w hw e
   rw[qrf eT,hh]at ih;simp only[zD];rw[fW (by simp only[zU];omega)];rw[<-ih];simp
  have:k=b.length:=by omega
  subst this;simp only[jV aE,zD,List.take_length]
def z78{p1:X aO}{n:Nat}{z:Int}{T:X m6}{A:X (X aR)}{rc:Int->X m6->X (X aR)->X Int->V (X Int)}{x39 x43 x47 x51:Int}:∀(m:Nat)(a b:X Int),b.length<m->a.length+b.length<=1000000->
  O7 p1 n z T A rc x39 x43 x47 x51 m (a.length:Int) (lX (if x43<x39 then x43 else x39) (if x51>x47 then x51 else x47) a++b)=Rp p1 n z T A rc x39 x43 x47 x51 (lX (if x43<x39 then x43 else x39) (if x51>x47 then x51 else x47) (a++b))
 |0,a,b,hm,_=>by omega
 |m+1,a,[],hm,hl=>by
  unfold O7;have:decide (((a.length:Nat):Int)<((lX (if x43<x39 then x43 else x39) (if x51>x47 then x51 else x47) a++[]).length:Int))=false:=by simp[lX]
  rw[this,zD,List.append_nil,List.append_nil]
 |m+1,a,x::b,hm,hl=>by
  simp only[zO]at hm hl;unfold O7;have h1:decide (((a.length:Nat):Int)<((lX (if x43<x39 then x43 else x39) (if x51>x47 then x51 else x47) a++x::b).length:Int))=true:=by simp[lX];omega
  have h2:(lX (if x43<x39 then x43 else x39) (if x51>x47 then x51 else x47) a++x::b)[a.length]? = some x:=by rw[List.getElem?_append_right (by simp[lX])];simp[lX]
  have hw:IntKind.i64.wrap ((a.length:Int)+1)=((a.length+1:Nat):Int):=by rw[wr qq0 qq0];simp
  have ih:=z78 (p1:=p1) (n:=n) (z:=z) (T:=T) (A:=A) (rc:=rc) (x39:=x39) (x43:=x43) (x47:=x47) (x51:=x51) m (a++[x]) b qq0 (by simp only[zU,zO,zS];omega);simp only[zU,zO,zS,Nat.zero_add]at ih;simp only[h1,zC,cP,h2,aM,zZ,Rs,hw];have e3:a++[x]++b=a++x::b:=by simp
  by_cases e:(x==(if x51>x47 then x51 else x47))=true;rw[xl,QU e,zT,List.cons_append,List.nil_append]at ih;rw[e,zC,qm7 _ _ _ _ _ (by simp[lX]),ih,e3];rw[Bool.not_eq_true]at e;rw[xl,QV e,zT,List.cons_append,List.nil_append]at ih;rw[e,zD,ih,e3]
structure CS(N:Nat)(L:X aO)(W:X (Int×Int))(A:X (X aR))(out:X Int)(C:X Gcell)(r:Nat->Nat):Prop where
 ck:CK N out r
 cl:C.length=N
 al:A.length=N
 ar:∀i,i<N->r i=i->A[i]? = some (bQ C i).arcs
 ds:∀i,i<N->jC (bQ C i).arcs
 pi:∀p∈W,xi N p
 tc:TC [] N L W C r
structure CD(N:Nat)(L:X aO)(W:X (Int×Int))(r:Nat->Nat)(oQ:X Int)(C':X Gcell)(r':Nat->Nat):Prop where
 ck:CK N oQ r'
 cl:C'.length=N
 ds:∀i,i<N->jC (bQ C' i).arcs
 tc:TC [] N L [] C' r'
 mono:∀i j,r i=r j->r' i=r' j
 prs:∀p∈W,r' p.1.toNat=r' p.2.toNat
 und:∀q,o9 L q->Q4 N W r q->Q4 N [] r' q
def ie{N:Nat}{L:X aO}(hL:A4 N [] L)(hN:N<=1000){n:Nat}(hn:2000000<=n):∀(m z:Nat)(T:X m6)(A:X (X aR))(out:X Int)(C:X Gcell)(r:Nat->Nat),
  CS N L ((T.drop z).map ua) A out C r->z<=T.length->T.length-z+tot C<m->T.length+tot C<=400000->
  ∃oQ C' r',AS L n m (z:Int) T A out=some oQ/\CD N L ((T.drop z).map ua) r oQ C' r'
 |0,z,T,A,out,C,r,_,_,hm,_=>by omega
 |m+1,z,T,A,out,C,r,h,hz,hm,hB=>by
  unfold AS;have mH:=hL.len;by_cases aE:z<T.length;obtain⟨p,hp,_⟩:=fP aE;have vP:=aX hp;rw[vP,zQ]at h ⊢;have cJ:=h.pi (ua p) qq4;obtain⟨i1,i2⟩:=cJ;simp only[ua]at i1 i2;have c1:=h.ck.at i1;have c2:=h.ck.at i2;have l1:=h.ck.lt (i:=p.E0.toNat) qq0;have l2:=h.ck.lt (i:=p.E1.toNat) qq0;simp only[jB aE,zC,cP,hp,aM,c1,c2];rw[Lp,ze];have hw:IntKind.i64.wrap ((z:Int)+1)=((z+1:Nat):Int):=kX aE qq0;by_cases e:r p.E0.toNat=r p.E1.toNat;have eb:((((min (r p.E0.toNat) (r p.E1.toNat):Nat):Int))==((max (r p.E0.toNat) (r p.E1.toNat):Nat):Int))=true:=by rw[e];simp
  rw[eb,zC,hw];obtain⟨oQ,C',r',g1,g2⟩:=ie hL hN hn m (z+1) T A out C r ⟨h.ck,h.cl,h.al,h.ar,h.ds,fun q hq=>h.pi q (List.mem_cons_of_mem _ hq),h.tc.skip (h.pi _ qq4) e⟩ qq0 qq0 hB;refine⟨oQ,C',r',g1,⟨g2.ck,g2.cl,g2.ds,g2.tc,g2.mono,fun q hq=>?_,fun q hq hu=>g2.und q hq ⟨hu.r,fun w hw=>hu.w w (List.mem_cons_of_mem _ hw)⟩⟩⟩;rcases zI.1 hq with rfl |hq;exact g2.mono _ _ e;exact g2.prs q hq;have eb:((((min (r p.E0.toNat) (r p.E1.toNat):Nat):Int))==((max (r p.E0.toNat) (r p.E1.toNat):Nat):Int))=false:=by rw[beq_eq_false_iff_ne];intro q;omega
  have idl:r (min (r p.E0.toNat) (r p.E1.toNat))=min (r p.E0.toNat) (r p.E1.toNat):=by rcases Nat.le_total (r p.E0.toNat) (r p.E1.toNat)with g |g;rw[Nat.min_eq_left g];exact h.ck.idem _ qq0;rw[Nat.min_eq_right g];exact h.ck.idem _ qq0
  have idh:r (max (r p.E0.toNat) (r p.E1.toNat))=max (r p.E0.toNat) (r p.E1.toNat):=by rcases Nat.le_total (r p.E0.toNat) (r p.E1.toNat)with g |g;rw[Nat.max_eq_right g];exact h.ck.idem _ qq0;rw[Nat.max_eq_left g];exact h.ck.idem _ qq0
  generalize FO:min (r p.E0.toNat) (r p.E1.toNat)=lo at*;generalize Wm:max (r p.E0.toNat) (r p.E1.toNat)=hi at*;have llo:lo<N:=by omega
  have lhi:hi<N:=by omega
  have lne:lo≠hi:=by omega
  have a1:=h.ar lo llo idl;have a2:=h.ar hi lhi idh;have hCl:=h.cl;have clo:C[lo]? = some (bQ C lo):=by rw[bQ,List.getElem?_eq_getElem qq0];rfl
  have chi:C[hi]? = some (bQ C hi):=by rw[bQ,List.getElem?_eq_getElem qq0];rfl
  have t1:=ir clo;have t2:=ir chi;have vO:=Ou (bQ C lo).arcs (bQ C hi).arcs;have hM:((bQ C lo).arcs++oK (bQ C lo).arcs (bQ C hi).arcs).length+(prs (bQ C lo).arcs (bQ C hi).arcs).length=(bQ C lo).arcs.length+(bQ C hi).arcs.length:=by rw[zU];omega
  have htm:=w5 clo chi lne 0 hM;have hMg:Mg N (ua p) C r lo hi:=⟨h.cl,llo,lhi,idl,idh,lne,fun i hi=>h.ck.lt hi,h.ck.idem,h.pi _ qq4,by simp only[ua];omega,h.ds lo llo⟩;rw[eb,zD];have l3:=z78 (p1:=L) (n:=n) (z:=(z:Int)) (T:=T) (A:=A) (rc:=AS L n m) (x39:=(r p.E0.toNat:Int)) (x43:=(r p.E1.toNat:Int)) (x47:=(r p.E0.toNat:Int)) (x51:=(r p.E1.toNat:Int)) n [] out (by rw[h.ck.len];omega) (by rw[h.ck.len];simp only[zS];omega);simp only[zS,lX,List.map_nil,List.nil_append,zV]at l3;rw[l3,Rp];have i3:i9 A 0 ((L.length:Int).toNat) (if(r p.E1.toNat:Int)<(r p.E0.toNat:Int)then(r p.E1.toNat:Int)else(r p.E0.toNat:Int))=some (bQ C lo).arcs:=by rw[Lp,FO];exact xx qq0 a1
  rw[i3,aM,fW qq0];have l4:=z79 (p1:=L) (n:=n) (z:=(z:Int)) (A:=A) (rc:=AS L n m) (x:=r p.E0.toNat) (y:=r p.E1.toNat) (out:=List.map (fun x=>if x==(if(r p.E1.toNat:Int)>(r p.E0.toNat:Int)then(r p.E1.toNat:Int)else(r p.E0.toNat:Int))then(if(r p.E1.toNat:Int)<(r p.E0.toNat:Int)then(r p.E1.toNat:Int)else(r p.E0.toNat:Int))else x) out)
   qq0 qq0 (by rw[FO];exact a1) (by rw[Wm];exact a2) (h.ds lo llo) qq0 qq0 qq0 (T:=T) qq0 n 0 qq0 qq0
  simp only[List.take_zero,oK,prs,List.filter_nil,List.filterMap_nil,List.map_nil,List.append_nil,zV]at l4;rw[l4,Ro,i3,aM,hw,Lp,ze,FO,Wm,zZ];have hprs:(bQ C hi).arcs.filterMap (fun y=>Option.map (fun x=>(x.To,y.To)) ((bQ C lo).arcs.find? fun x=>x.Feat==y.Feat))=prs (bQ C lo).arcs (bQ C hi).arcs:=rfl;have gH:(bQ C hi).arcs.filter (fun y=>!DF (bQ C lo).arcs y.Feat)=oK (bQ C lo).arcs (bQ C hi).arcs:=rfl;rw[hprs,gH];have hck:=h.ck.mrg (a:=p.E0.toNat) (b:=p.E1.toNat) qq0 qq0;rw[FO,Wm]at hck;have CU:((T++(Go.Proofs.prs (bQ C lo).arcs (bQ C hi).arcs).map pk).drop (z+1)).map ua=(T.drop (z+1)).map ua++Go.Proofs.prs (bQ C lo).arcs (bQ C hi).arcs:=by rw[List.drop_append_of_le_length qq0,List.map_append,List.map_map];congr 1;have:(ua ∘ pk)=(id:Int×Int->Int×Int):=funext fun q=>rfl;rw[this,List.map_id]
  have xI:=z_ (c:=C) (m:=lo) (n:=hi) qq0 qq0 lne 0 ((bQ C lo).arcs++oK (bQ C lo).arcs (bQ C hi).arcs);have inr:∀i,i<N->r i=i->∀b∈(bQ C i).arcs,0<=b.To/\b.To<(N:Int):=fun i hi nX b hb=>by obtain⟨j,c,q1,q2,q3⟩:=h.tc.snd i b hi nX hb;exact hL.ar j c b q1 q3
  have fM:∀w∈Go.Proofs.prs (bQ C lo).arcs (bQ C hi).arcs,w∈(T.drop (z+1)).map ua++Go.Proofs.prs (bQ C lo).arcs (bQ C hi).arcs:=fun w hw=>List.mem_append_right _ hw;have mF:∀w∈(T.drop (z+1)).map ua,w∈(T.drop (z+1)).map ua++Go.Proofs.prs (bQ C lo).arcs (bQ C hi).arcs:=fun w hw=>List.mem_append_left _ hw;have htc:=h.tc.mrg hL hMg (t:=0) (o:=(bQ C lo).arcs++oK (bQ C lo).arcs (bQ C hi).arcs) (by simp[eP]) (List.Perm.refl _) fM mF;obtain⟨oQ,C',r',g1,g2⟩:=ie hL hN hn m (z+1) (T++(Go.Proofs.prs (bQ C lo).arcs (bQ C hi).arcs).map pk) (A.set lo ((bQ C lo).arcs++oK (bQ C lo).arcs (bQ C hi).arcs)) (lX (lo:Int) (hi:Int) out) (MB C lo hi 0 ((bQ C lo).arcs++oK (bQ C lo).arcs (bQ C hi).arcs)) (fZ r lo hi)
   (by
    rw[CU];refine⟨hck,by simp[MB,h.cl],by simp[h.al],fun i i5 nX=>?_,fun i i5=>?_,fun q hq=>?_,htc⟩;rw[xI];have hih:i≠hi:=fun q=>by subst q;unfold fZ at nX;rw[idh,if_pos rfl]at nX;exact lne nX
    rw[if_neg hih];by_cases eil:i=lo;subst eil;rw[if_pos rfl,List.getElem?_set_self (by rw[h.al];exact i5)];rw[if_neg eil,List.getElem?_set_ne (fun q=>eil q.symm)];refine h.ar i i5 ?_;unfold fZ at nX;split at nX;exact absurd nX.symm eil;exact nX;rw[xI];split;exact List.Pairwise.nil;split;exact qus (h.ds lo llo) (h.ds hi lhi);exact h.ds i i5;rcases yD.1 hq with hq |hq;exact h.pi q (List.mem_cons_of_mem _ hq);obtain⟨x,hx,y,hy,_,rfl⟩:=z1m hq;exact⟨inr lo llo idl x hx,inr hi lhi idh y hy⟩)
   (by rw[zU];omega) (by simp only[zU,yA];omega) (by simp only[zU,yA];omega)
  rw[CU]at g2;refine⟨oQ,C',r',g1,⟨g2.ck,g2.cl,g2.ds,g2.tc,fun i j nZ=>g2.mono i j (N_ nZ),fun q hq=>?_,fun q hq hu=>?_⟩⟩;rcases zI.1 hq with rfl |hq;refine g2.mono _ _ ?_;simp only[ua];unfold fZ;have:(r p.E0.toNat=lo/\r p.E1.toNat=hi)\/(r p.E0.toNat=hi/\r p.E1.toNat=lo):=by omega
  rcases this with⟨q1,q2⟩|⟨q1,q2⟩;rw[q1,q2,if_neg lne,if_pos rfl];rw[q1,q2,if_neg lne,if_pos rfl];exact g2.prs q (mF q hq);refine g2.und q hq (hu.mrg hL hMg h.tc hq fun w hw=>?_).2;rcases yD.1 hw with hw |hw;exact .inr hw;exact .inl hw;have:z=T.length:=by omega
  subst this;rw[List.drop_length,List.map_nil]at h ⊢;simp only[jV aE,zD,lp];exact⟨out,C,r,rfl,h.ck,h.cl,h.ds,h.tc,fun _ _ q=>q,(fun _ hq=>(by cases hq)),fun _ _ hu=>hu⟩
def wI(w:Nat×Nat):Int×Int:=((w.1:Int),(w.2:Int))
structure Old(g:Int)(x:PN):Prop where
 fw:x.fwA<g
 mt:x.mtA<g
 mo:x.moA<g
 cp:x.cpA<g
 ch:x.chA<g
structure Mid(g:Int)(x:PN):Prop where
 fw:x.fwA<=g
 mt:x.mtA<=g
 mo:x.moA<=g
 cp:x.cpA<g
 ch:x.chA<g
def Old.mid{g:Int}{x:PN}(h:Old g x):Mid g x:=⟨by have:=h.fw;omega,by have:=h.mt;omega,by have:=h.mo;omega,h.cp,h.ch⟩
structure US(ws:X Nat)(g:Int)(N:X PN)(C:X Gcell)(aH d:Nat->Nat)(D:Nat):Prop where
 rok:Nz N.length D aH d
 root:∀(i:Nat)(x:PN),N[i]? = some x->aH i=i->(x.fwA != g)=true
 link:∀(i:Nat)(x:PN),N[i]? = some x->aH i≠i->(x.fwA != g)=false/\∃j,x.fw=some j/\Om N.length aH d i j
 cl:C.length=N.length
 kd:∀(i:Nat)(x:PN),N[i]? = some x->aH i=i->(bQ C i).kind=gP g x
 ar:∀(i:Nat)(x:PN),N[i]? = some x->aH i=i->(bQ C i).arcs=(bV g x).map gA
 ds:∀i,i<N.length->jC (bQ C i).arcs
 kr:∀i,i<N.length->aH i=i->0<=(bQ C i).kind/\(bQ C i).kind<(ws.length:Int)
 wf:Wf N
 mid:∀x∈N,Mid g x
def US.find{ws:X Nat}{g:Int}{N:X PN}{C:X Gcell}{aH d:Nat->Nat}{D:Nat}(u:US ws g N C aH d D):∀(k i:Nat),d i<k->i<N.length->sV N g k i=some (aH i)
 |0,i,hk,_=>by omega
 |k+1,i,hk,hi=>by obtain⟨x,hx⟩:=fE hi;rw[sV,hx,aM];by_cases e:aH i=i;rw[u.root i x hx e,zC,e];obtain⟨h1,j,h2,h3,h4,h5⟩:=u.link i x hx e;rw[h1,zD,h2,aM,u.find k j qq0 h3,h4]
def z0w{q:eC->PE}{l:X eC}(h:l.find? q=none):decide (AA q l>=0)=false:=by
 have:l.findIdx? q=none:=by rw[List.findIdx?_eq_none_iff];intro x hx;simpa using List.find?_eq_none.1 h x hx
 rw[AA,this];rfl
def qre{q:eC->PE}{z:eC}:∀{l:X eC},l.find? q=some z->∃i:Nat,AA q l=(i:Int)/\l[i]? = some z
 |[],h=>by cases h
 |a::l,h=>by
  rw[List.find?_cons]at h;cases hq:q a with
  |true=>rw[hq]at h;cases h;exact⟨0,by simp[AA,List.findIdx?_cons,hq],rfl⟩|false=>rw[hq]at h;obtain⟨i,h1,h2⟩:=qre (l:=l) h;refine⟨i+1,?_,by simpa using h2⟩;unfold AA at h1 ⊢;rw[List.findIdx?_cons,hq];rcases hf:l.findIdx? q with _|j;rw[hf]at h1;simp at h1;rw[hf]at h1;simp at h1 ⊢;omega
def z9c(l:X eC)(f:Int):(l.map gA).find? (fun x=>x.Feat==f)=(l.find? fun z=>z.f==f).map gA:=by rw[List.find?_map];rfl
def qzs(l:X eC)(f:Int):DF (l.map gA) f=(l.find? fun z=>z.f==f).isSome:=by rw[Bool.eq_iff_iff,List.find?_isSome,YK];constructor;rintro⟨x,hx,e⟩;obtain⟨a,ha,rfl⟩:=List.mem_map.1 hx;exact⟨a,ha,by simpa[gA]using e⟩;rintro⟨a,ha,e⟩;exact⟨gA a,List.mem_map_of_mem ha,by simpa[gA]using e⟩
def z6c{N:X PN}{p:Nat}{x:PN}(h:N[p]? = some x):N.set p x=N:=by
 apply List.ext_getElem?;intro i;rw[List.getElem?_set];split
 ·next e=>subst e;rw[if_pos (zG.1 h).1,h]
 rfl
def U'{g:Int}{p:Nat}{mine:X eC}:∀(ys:X eC)(W:X (Nat×Nat))(N:X PN)(x:PN),N[p]? = some x->W.length+ys.length<=1000000->(gN g x).length+ys.length<=1000000->
  ∃W1 mo moA l,OI g p mine ys W N=some (W++W1,N.set p { x with more:=mo,moA:=moA })/\W1.map wI=prs (mine.map gA) (ys.map gA)/\gN g { x with more:=mo,moA:=moA }=gN g x++l/\l.map gA=oK (mine.map gA) (ys.map gA)/\(∀a∈l,a∈ys)/\(moA=x.moA/\mo=x.more\/moA=g)/\(∀w∈W1,∃a∈mine,∃b∈ys,w=(a.to,b.to))
 |[],W,N,x,hx,_,_=>⟨[],x.more,x.moA,[],by rw[OI];simp[z6c hx],rfl,by simp,rfl,nofun,.inl ⟨rfl,rfl⟩,nofun⟩|y::ys,W,N,x,hx,h1,h2=>by
  simp only[zO]at h1 h2;rw[OI];have hf:=z9c mine y.f;cases hq:mine.find? (fun z=>z.f==y.f)with
  |some z=>obtain⟨i,e1,e2⟩:=qre hq;have hz:=List.mem_of_find?_eq_some hq;rw[e1,decide_eq_true qq0,zC,cP,e2,aM,aF,if_pos qq0];obtain⟨W1,mo,moA,l,g1,g2,g3,g4,g5,g6,g7⟩:=U' (g:=g) (p:=p) (mine:=mine) ys (W++[(z.to,y.to)]) N x hx (by simp;omega) qq0;refine⟨(z.to,y.to)::W1,mo,moA,l,by rw[g1];simp,?_,g3,?_,fun a ha=>List.mem_cons_of_mem _ (g5 a ha),g6,fun w hw=>?_⟩;rw[zQ,zQ,qw7,show(gA y).Feat=y.f from rfl,hf,hq,g2];rfl;rw[g4,zQ,oK,oK,List.filter_cons,show(gA y).Feat=y.f from rfl,qzs,hq];rfl;rcases zI.1 hw with rfl |hw;exact⟨z,hz,y,by simp,rfl⟩;obtain⟨a,ha,b,hb,e⟩:=g7 w hw;exact⟨a,ha,b,List.mem_cons_of_mem _ hb,e⟩
  |none=>
   rw[z0w hq,zD,hx,aM,aF,if_pos qq0];have hp:p<N.length:=oB hx;have hm:gN g { x with more:=gN g x++[y],moA:=g }=gN g x++[y]:=by simp[gN]
   obtain⟨W1,mo,moA,l,g1,g2,g3,g4,g5,g6,g7⟩:=U' (g:=g) (p:=p) (mine:=mine) ys W (N.set p { x with more:=gN g x++[y],moA:=g }) { x with more:=gN g x++[y],moA:=g } (by rw[List.getElem?_set_self hp]) qq0 (by rw[hm];simp;omega);have e3:gN g { x with more:=mo,moA:=moA }=gN g { ({ x with more:=gN g x++[y],moA:=g }:PN)with more:=mo,moA:=moA }:=rfl;refine⟨W1,mo,moA,y::l,by rw[g1,List.set_set],?_,?_,?_,fun a ha=>?_,.inr ?_,fun w hw=>?_⟩;rw[zQ,qw7,show(gA y).Feat=y.f from rfl,hf,hq,g2];rfl;rw[e3,g3,hm];simp;rw[zQ,g4,zQ,oK,oK,List.filter_cons,show(gA y).Feat=y.f from rfl,qzs,hq];rfl;rcases zI.1 ha with rfl |ha;simp;exact List.mem_cons_of_mem _ (g5 a ha);rcases g6 with⟨e,_⟩|e;exact e;exact e;obtain⟨a,ha,b,hb,e⟩:=g7 w hw;exact⟨a,ha,b,List.mem_cons_of_mem _ hb,e⟩
def US.mrg{ws:X Nat}{g:Int}{N:X PN}{C:X Gcell}{aH d:Nat->Nat}{D:Nat}(u:US ws g N C aH d D){p q:Nat}(hp:p<N.length)(hq:q<N.length)(ep:aH p=p)(eq:aH q=q)(vN:p≠q){x y:PN}(hx:N[p]? = some x)(hy:N[q]? = some y){t:Int}(ht:0<=t/\t<(ws.length:Int)){mo:X eC}{moA:Int}{l:X eC}
  (h1:gN g { x with more:=mo,moA:=moA }=gN g x++l) (h2:l.map gA=oK (bQ C p).arcs (bQ C q).arcs) (h3:∀a∈l,a∈bV g y) (h4:moA=x.moA/\mo=x.more\/moA=g):
  US ws g ((N.set p { x with more:=mo,moA:=moA,mt:=t,mtA:=g }).set q { y with fw:=some p,fwA:=g }) (MB C p q t ((bQ C p).arcs++oK (bQ C p).arcs (bQ C q).arcs)) (fZ aH p q) (Q9 aH d q) (D+1):=by
 have hl:((N.set p { x with more:=mo,moA:=moA,mt:=t,mtA:=g }).set q { y with fw:=some p,fwA:=g }).length=N.length:=by simp
 have P5:p<C.length:=by rw[u.cl];exact hp
 have hcq:q<C.length:=by rw[u.cl];exact hq
 have cel:=z_ P5 hcq vN t ((bQ C p).arcs++oK (bQ C p).arcs (bQ C q).arcs);have cs:∀(i:Nat)(z:PN),((N.set p { x with more:=mo,moA:=moA,mt:=t,mtA:=g }).set q { y with fw:=some p,fwA:=g })[i]? = some z->(i=q/\z={ y with fw:=some p,fwA:=g })\/(i≠q/\i=p/\z={ x with more:=mo,moA:=moA,mt:=t,mtA:=g })\/(i≠q/\i≠p/\N[i]? = some z):=fun i z hz=>by rcases z2r hz with⟨e,e2⟩|⟨e,hz⟩;exact .inl ⟨e,e2⟩;rcases z2r hz with⟨e1,e2⟩|⟨e1,hz⟩;exact .inr (.inl ⟨e,e1,e2⟩);exact .inr (.inr ⟨e,e1,hz⟩)
 have wx:=u.wf.at hx;have wy:=u.wf.at hy;have mx:=u.mid x (zX hx);have my:=u.mid y (zX hy);have fD:∀a∈mo,a.to<N.length:=fun a ha=>by
  rcases h4 with⟨_,e2⟩|e;rw[e2]at ha;exact wx.more a ha;have h5:gN g { x with more:=mo,moA:=moA }=mo:=by simp[gN,e]
  rw[h5]at h1;rw[h1]at ha;rcases yD.1 ha with ha |ha;exact ip wx a ha;exact NA wy a (h3 a ha)
 refine⟨by rw[hl];exact u.rok.mrg hp ep eq vN,fun i z hz hr=>?_,fun i z hz hr=>?_,by simp only[MB,List.length_set,u.cl],fun i z hz hr=>?_,fun i z hz hr=>?_,fun i hi=>?_,fun i hi hr=>?_,fun z hz=>?_,fun z hz=>?_⟩;obtain⟨r1,r2⟩:=jt ep vN hr;rcases cs i z hz with⟨e,_⟩|⟨_,e,rfl⟩|⟨_,_,hz⟩;exact absurd e r1;exact u.root p x hx ep;exact u.root i z hz r2;rw[hl];rcases cs i z hz with⟨rfl,rfl⟩|⟨_,rfl,rfl⟩|⟨e1,_,hz⟩;exact⟨by simp,p,rfl,z5c u.rok hp hq ep eq vN⟩;exfalso;apply hr;unfold fZ;rw[ep,if_neg vN];obtain⟨k1,j,k2,k3⟩:=u.link i z hz (z69 ep hr e1);exact⟨k1,j,k2,k3.mrg (D:=D)⟩;obtain⟨r1,r2⟩:=jt ep vN hr;rw[cel,if_neg r1];rcases cs i z hz with⟨e,_⟩|⟨_,e,rfl⟩|⟨_,e,hz⟩;exact absurd e r1;rw[if_pos e];simp[gP];rw[if_neg e];exact u.kd i z hz r2;obtain⟨r1,r2⟩:=jt ep vN hr;rw[cel,if_neg r1];rcases cs i z hz with⟨e,_⟩|⟨_,e,rfl⟩|⟨_,e,hz⟩;exact absurd e r1;rw[if_pos e];show _++oK _ _=(x.arcs++gN g { x with more:=mo,moA:=moA }).map gA;rw[h1,<-zT,List.map_append,h2,u.ar p x hx ep];rfl;rw[if_neg e];exact u.ar i z hz r2;rw[hl]at hi;rw[cel];split;exact List.Pairwise.nil;split;exact qus (u.ds p hp) (u.ds q hq);exact u.ds i hi;rw[hl]at hi;obtain⟨r1,r2⟩:=jt ep vN hr;rw[cel,if_neg r1];split;exact ht;exact u.kr i hi r2;rw[hl];obtain⟨i,hi⟩:=List.getElem?_of_mem hz;rcases cs i z hi with⟨_,rfl⟩|⟨_,_,rfl⟩|⟨_,_,hz⟩;exact⟨wy.arcs,hp,wy.more,wy.cp⟩;exact⟨wx.arcs,wx.fw,fD,wx.cp⟩;exact u.wf.at hz;obtain⟨i,hi⟩:=List.getElem?_of_mem hz;rcases cs i z hi with⟨_,rfl⟩|⟨_,_,rfl⟩|⟨_,_,hz⟩;exact⟨Int.le_refl _,my.mt,my.mo,my.cp,my.ch⟩;refine⟨mx.fw,Int.le_refl _,?_,mx.cp,mx.ch⟩;show moA<=g;rcases h4 with⟨e,_⟩|e;rw[e];exact mx.mo;omega;exact u.mid z (zX hz)
structure UR(ws:X Nat)(g:Int)(L:X aO)(W:X (Nat×Nat))(N N':X PN)(aH:Nat->Nat)(B:Nat)(b:PE):Prop where
 sm:Sm N N'
 wf:Wf N'
 mid:∀x∈N',Mid g x
 yes:b=true->∃C' qR d' D',US ws g N' C' qR d' D'/\D'+tot C'<=B/\TC ws N.length L [] C' qR/\(∀i j,aH i=aH j->qR i=qR j)/\(∀w∈W,qR w.1=qR w.2)/\∀q,o9 L q->Q4 N.length (W.map wI) aH q->Q4 N.length [] qR q
 no:b=false->∀q,o9 L q->Q4 N.length (W.map wI) aH q->VW ws L q
def y_{C:X Gcell}{i:Nat}(hi:i<C.length):(bQ C i).arcs.length<=tot C:=by
 obtain⟨x,hx⟩:=fE hi;have:bQ C i=x:=by simp[bQ,hx]
 rw[this];exact ir hx
def ob{H:cZ}{ws:X Nat}(hh:nT H ws){n:Nat}(hn:2000<=n){g:Int}{L:X aO}:∀(m:Nat)(W:X (Nat×Nat))(N:X PN)(C:X Gcell)(aH d:Nat->Nat)(D:Nat),A4 N.length ws L->US ws g N C aH d D->(∀w∈W,w.1<N.length/\w.2<N.length)->TC ws N.length L (W.map wI) C aH->W.length+tot C<m->D+W.length+tot C<n->2*(W.length+tot C)<=1000000->
  ∃b N',JX H g n m W N=some (b,N')/\UR ws g L W N N' aH (D+W.length+tot C) b
 |0,W,N,C,aH,d,D,_,_,_,_,hm,_,_=>by omega
 |m+1,[],N,C,aH,d,D,hL,u,hw,tc,hm,hD,hB=>⟨true,N,rfl,Sm.refl N,u.wf,u.mid,fun _=>⟨C,aH,d,D,u,by simp,tc,fun _ _ h=>h,nofun,fun q _ h=>h⟩,nofun⟩|m+1,w::W,N,C,aH,d,D,hL,u,hw,tc,hm,hD,hB=>by
  simp only[zO]at hm hD hB;obtain⟨fM,mF⟩:=hw w qq4;have hb1:=u.rok.bd _ fM;have hb2:=u.rok.bd _ mF;rw[JX,u.find n w.1 qq0 fM,aM,u.find n w.2 qq0 mF,aM];have pi:xi N.length (wI w):=⟨⟨by simp[wI],by simp[wI];exact fM⟩,by simp[wI],by simp[wI];exact mF⟩;by_cases e:aH w.1=aH w.2;have e1:Nat.beq (aH w.1) (aH w.2)=true:=by rw[beq_eq];simp[e]
  rw[e1,zC];obtain⟨b,N',g1,g2⟩:=ob hh hn m W N C aH d D hL u (fun z hz=>hw z (List.mem_cons_of_mem _ hz)) (tc.skip pi (by simpa[wI]using e)) qq0 qq0 qq0;refine⟨b,N',g1,g2.sm,g2.wf,g2.mid,fun hb=>?_,fun hb q hq hu=>g2.no hb q hq ⟨hu.r,fun z hz=>hu.w z (List.mem_cons_of_mem _ hz)⟩⟩;obtain⟨C',qR,d',D',k1,k2,k3,k4,k5,k6⟩:=g2.yes hb;refine⟨C',qR,d',D',k1,by simp;omega,k3,k4,fun z hz=>?_,fun q hq hu=>k6 q hq ⟨hu.r,fun z hz=>hu.w z (List.mem_cons_of_mem _ hz)⟩⟩;rcases zI.1 hz with rfl |hz;exact k4 _ _ e;exact k5 z hz;have e1:Nat.beq (aH w.1) (aH w.2)=false:=by rw[beq_eq];simp[e]
  have hp:=u.rok.lt _ fM;have hq:=u.rok.lt _ mF;have ep:=u.rok.idem _ fM;have eq:=u.rok.idem _ mF;obtain⟨x,hx⟩:=fE hp;obtain⟨y,hy⟩:=fE hq;rw[e1,zD,hx,aM,hy,aM];have kx:=u.kd _ x hx ep;have ky:=u.kd _ y hy eq;have krx:=u.kr _ hp ep;have kry:=u.kr _ hq eq;have ax:=u.ar _ x hx ep;have ay:=u.ar _ y hy eq;have T:Mg N.length (wI w) C aH (aH w.1) (aH w.2):=⟨u.cl,hp,hq,ep,eq,e,u.rok.lt,u.rok.idem,pi,.inl ⟨by simp[wI],by simp[wI]⟩,u.ds _ hp⟩;rw[<-kx,<-ky];rcases ZX hh krx kry hn with⟨_,⟨r,h1,h2⟩,h3⟩|⟨r,_,h1,h2,h3⟩;rw[h1,aM,h2];simp only[Bool.not_false,zC];refine⟨false,N,rfl,Sm.refl N,u.wf,u.mid,nofun,fun _ q rJ hu=>?_⟩;obtain⟨e3,_⟩:=hu.mrg hL T tc rJ (W':=W.map wI) fun z hz=>.inr hz
  refine⟨aH w.1,by rw[hL.len];exact hp,fun b=>?_⟩;have hb:(eP ws (bQ C (aH w.1)).kind).testBit b=false\/(eP ws (bQ C (aH w.2)).kind).testBit b=false:=by have:=congrArg (fun x=>x.testBit b) h3;simp only[Nat.testBit_and,Nat.zero_testBit,Bool.and_eq_false_iff]at this;exact this
  have find:∀i,i<N.length->aH i=i->(eP ws (bQ C i).kind).testBit b=false->∃(j:Nat)(x:aO),L[j]? = some x/\aH j=i/\(eP ws x.Typex).testBit b=false:=fun i hi nX hf=>by
   refine Classical.byContradiction fun eT=>?_;have:=(tc.kd i hi nX b).2 fun j x hj Vj=>by rcases hx:(eP ws x.Typex).testBit b with _|_;exact absurd ⟨j,x,hj,Vj,hx⟩ eT;rfl
   rw[hf]at this;cases this
  rcases hb with hb |hb;obtain⟨j,x,q1,q2,q3⟩:=find _ hp ep hb;have jl:=(zG.1 q1).1;rw[hL.len]at jl;exact⟨j,x,q1,hu.r _ _ jl hp (by rw[ep,q2]),q3⟩;obtain⟨j,x,q1,q2,q3⟩:=find _ hq eq hb;have jl:=(zG.1 q1).1;rw[hL.len]at jl;exact⟨j,x,q1,by rw[e3];exact hu.r _ _ jl hq (by rw[eq,q2]),q3⟩;have lx:(bV g x).length<=tot C:=by have:=y_ (C:=C) (i:=aH w.1) (by rw[u.cl];exact hp);rw[ax,yA]at this;exact this
  have ly:(bV g y).length<=tot C:=by have:=y_ (C:=C) (i:=aH w.2) (by rw[u.cl];exact hq);rw[ay,yA]at this;exact this
  have P4:C[aH w.1]? = some (bQ C (aH w.1)):=by obtain⟨z,hz⟩:=fE (l:=C) (i:=aH w.1) (by rw[u.cl];exact hp);simp[bQ,hz]
  have hcy:C[aH w.2]? = some (bQ C (aH w.2)):=by obtain⟨z,hz⟩:=fE (l:=C) (i:=aH w.2) (by rw[u.cl];exact hq);simp[bQ,hz]
  have pS:=w5 (o:=(bQ C (aH w.1)).arcs++oK (bQ C (aH w.1)).arcs (bQ C (aH w.2)).arcs) (k:=(prs (bQ C (aH w.1)).arcs (bQ C (aH w.2)).arcs).length) P4 hcy e r (by rw[zU];have:=Ou (bQ C (aH w.1)).arcs (bQ C (aH w.2)).arcs;omega);have lpr:(prs (bQ C (aH w.1)).arcs (bQ C (aH w.2)).arcs).length<=(bV g y).length:=by
   have h5:=Ou (bQ C (aH w.1)).arcs (bQ C (aH w.2)).arcs;have h7:(bQ C (aH w.2)).arcs.length=(bV g y).length:=by rw[ay,yA]
   omega
  have lmo:(gN g x).length<=(bV g x).length:=by simp[bV]
  rw[h1,aM];simp only[Bool.not_true,zD];rw[aF,if_pos ⟨by omega,by omega⟩];obtain⟨W1,mo,moA,l,g1,g2,g3,g4,g5,g6,g7⟩:=U' (g:=g) (p:=aH w.1) (mine:=bV g x) (bV g y) W N x hx qq0 qq0;rw[g1,aM];simp only;rw[List.getElem?_set_self hp,aM,List.set_set,List.getElem?_set_ne e,hy,aM];rw[<-ax,<-ay]at g2 g4;have u':=u.mrg hp hq ep eq e hx hy h2 g3 g4 g5 g6;have hN:((N.set (aH w.1) { x with more:=mo,moA:=moA,mt:=r,mtA:=g }).set (aH w.2) { y with fw:=some (aH w.1),fwA:=g }).length=N.length:=by simp
  have wx:=u.wf.at hx;have wy:=u.wf.at hy;have lW1:W1.length=(prs (bQ C (aH w.1)).arcs (bQ C (aH w.2)).arcs).length:=by rw[<-g2,yA]
  have tc':=tc.mrg (W':=(W++W1).map wI) hL T (t:=r) (o:=(bQ C (aH w.1)).arcs++oK (bQ C (aH w.1)).arcs (bQ C (aH w.2)).arcs) h3 (List.Perm.refl _) (fun z hz=>by rw[List.map_append,g2];exact List.mem_append_right _ hz) fun z hz=>by rw[List.map_append];exact List.mem_append_left _ hz
  obtain⟨b,N',k1,k2⟩:=ob hh hn m (W++W1) _ _ _ _ (D+1) (by rw[hN];exact hL) u' (fun z hz=>by rw[hN];rcases yD.1 hz with hz |hz;exact hw z (List.mem_cons_of_mem _ hz);obtain⟨a,ha,b,hb,rfl⟩:=g7 z hz;exact⟨NA wx a ha,NA wy b hb⟩) (by rw[hN];exact tc') (by rw[zU];omega) (by rw[zU];omega) (by rw[zU];omega);have hs:Sm N ((N.set (aH w.1) { x with more:=mo,moA:=moA,mt:=r,mtA:=g }).set (aH w.2) { y with fw:=some (aH w.1),fwA:=g }):=
   (Sm.set { x with more:=mo,moA:=moA,mt:=r,mtA:=g } hx rfl rfl).trans (Sm.set { y with fw:=some (aH w.1),fwA:=g } (x:=y) (by rw[List.getElem?_set_ne e];exact hy) rfl rfl)
  refine⟨b,N',k1,hs.trans k2.sm,k2.wf,k2.mid,fun hb=>?_,fun hb q rJ hu=>?_⟩;obtain⟨C',qR,d',D',j1,j2,j3,j4,j5,j6⟩:=k2.yes hb;rw[hN]at j3 j6;refine⟨C',qR,d',D',j1,by rw[zU]at j2;simp only[zO];omega,j3,fun i j nZ=>j4 i j (N_ nZ),fun z hz=>?_,fun q rJ hu=>j6 q rJ (hu.mrg hL T tc rJ fun z hz=>?_).2⟩;rcases zI.1 hz with rfl |hz;refine j4 _ _ ?_;unfold fZ;rw[if_neg e,if_pos rfl];exact j5 z (List.mem_append_left _ hz);rw[List.map_append,g2]at hz;rcases yD.1 hz with hz |hz;exact .inr hz;exact .inl hz;have:=k2.no hb q rJ;rw[hN]at this;refine this (hu.mrg hL T tc rJ fun z hz=>?_).2;rw[List.map_append,g2]at hz;rcases yD.1 hz with hz |hz;exact .inr hz;exact .inl hz
def ai{l:X Nat}{n:Nat}(h:l.Nodup)(hl:∀k∈l,k<n):l.length<=n:=by
 have:=r? n (qv5 h) fun v hv=>by obtain⟨u,hu,rfl⟩:=List.mem_map.1 hv;have:=hl u hu;omega
 rwa [fp]at this
structure KK(x y:PN):Prop where
 kind:y.kind=x.kind
 arcs:y.arcs=x.arcs
 fw:y.fw=x.fw
 fwA:y.fwA=x.fwA
 mt:y.mt=x.mt
 mtA:y.mtA=x.mtA
 more:y.more=x.more
 moA:y.moA=x.moA
def KK.refl(x:PN):KK x x:=⟨rfl,rfl,rfl,rfl,rfl,rfl,rfl,rfl⟩
variable{x:PN}
variable{y:PN}
def KK.pk(h:KK x y)(g:Int):gP g y=gP g x/\gN g y=gN g x/\bV g y=bV g x:=by
 have h1:gN g y=gN g x:=by rw[gN,gN,h.moA,h.more]
 exact⟨by rw[gP,gP,h.mtA,h.kind,h.mt],h1,by rw[bV,bV,h.arcs,h1]⟩
def Kp(N1 N:X PN):Prop:=∀(i:Nat)(x:PN),N1[i]? = some x->∃y,N[i]? = some y/\KK x y
def Kp.refl(N:X PN):Kp N N:=fun i x hx=>⟨x,hx,KK.refl x⟩
section
variable{ws:X Nat}{g:Int}{N1 N:X PN}{C:X Gcell}{aH d:Nat->Nat}{D n:Nat}
def US.findK(u:US ws g N1 C aH d D)(h:Kp N1 N):∀(k i:Nat),d i<k->i<N1.length->sV N g k i=some (aH i)
 |0,i,hk,_=>by omega
 |k+1,i,hk,hi=>by obtain⟨x,hx⟩:=fE hi;obtain⟨y,hy,hK⟩:=h i x hx;rw[sV,hy,aM,hK.fwA,hK.fw];by_cases e:aH i=i;rw[u.root i x hx e,zC,e];obtain⟨h1,j,h2,h3,h4,h5⟩:=u.link i x hx e;rw[h1,zD,h2,aM,u.findK h k j qq0 h3,h4]
def US.fnd(u:US ws g N1 C aH d D)(h:Kp N1 N)(hn:D<n){i:Nat}(hi:i<N1.length):sV N g n i=some (aH i):=u.findK h n i (by have:=u.rok.bd i hi;omega) hi
variable{p:Nat}
def US.alen(u:US ws g N1 C aH d D)(hx:N1[p]? = some x)(hp:aH p=p):(bV g x).length<=tot C:=by have:=y_ (C:=C) (i:=p) (by rw[u.cl];exact oB hx);rw[u.ar p x hx hp,yA]at this;exact this
def US.to(u:US ws g N1 C aH d D){p:Nat}{x:PN}(hx:N1[p]? = some x):∀a∈bV g x,a.to<N1.length:=NA (u.wf.at hx)
def i_(u:US ws g N1 C aH d D)(hn:D<n)(hN:N1.length<=1000000):∀(l:X eC)(out:X Nat),(∀a∈l,a.to<N1.length)->out.Nodup->(∀k∈out,k<N1.length)->
  ∃t,RE N1 g n l out=some (out++t)/\(out++t).Nodup/\(∀k∈t,∃a∈l,k=aH a.to)/\∀a∈l,aH a.to∈out++t
 |[],out,_,h1,_=>⟨[],by simp[RE],by simpa using h1,nofun,nofun⟩|a::l,out,hl,h1,h2=>by
  have ha:=hl a qq4;have hr:=u.rok.lt _ ha;rw[RE,u.fnd (Kp.refl _) hn ha,aM];by_cases hc:aH a.to∈out;have e1:out.contains (aH a.to)=true:=by simpa using hc
  rw[e1,zC];obtain⟨t,g1,g2,g3,g4⟩:=i_ u hn hN l out (fun b hb=>hl b (List.mem_cons_of_mem _ hb)) h1 h2;refine⟨t,g1,g2,fun k hk=>?_,fun b hb=>?_⟩;obtain⟨b,hb,e⟩:=g3 k hk;exact⟨b,List.mem_cons_of_mem _ hb,e⟩;rcases zI.1 hb with rfl |hb;exact List.mem_append_left _ hc;exact g4 b hb;have e1:out.contains (aH a.to)=false:=by simpa using hc
  have OS:=ai h1 h2;have tV:(out++[aH a.to]).Nodup:=by rw[List.nodup_append];refine⟨h1,by simp,fun x hx y hy=>?_⟩;simp at hy;subst hy;exact fun e=>hc (e ▸ hx)
  have FY:∀k∈out++[aH a.to],k<N1.length:=fun k hk=>by rcases yD.1 hk with hk |hk;exact h2 k hk;simp at hk;subst hk;exact hr
  rw[e1,zD,aF,if_pos qq0];obtain⟨t,g1,g2,g3,g4⟩:=i_ u hn hN l (out++[aH a.to]) (fun b hb=>hl b (List.mem_cons_of_mem _ hb)) tV FY;refine⟨aH a.to::t,by rw[g1];simp,by simpa using g2,fun k hk=>?_,fun b hb=>?_⟩;rcases zI.1 hk with rfl |hk;exact⟨a,by simp,rfl⟩;obtain⟨b,hb,e⟩:=g3 k hk;exact⟨b,List.mem_cons_of_mem _ hb,e⟩;rcases zI.1 hb with rfl |hb;simp;have:=g4 b hb;simpa using this
structure RO(g:Int)(N:X PN)(aH:Nat->Nat)(r:Nat)(out:X Nat):Prop where
 nd:out.Nodup
 lt:∀k∈out,k<N.length
 rp:∀k∈out,aH k=k
 hd:r∈out
 clo:∀p∈out,∀x,N[p]? = some x->∀a∈bV g x,aH a.to∈out
 ind:∀S:Nat->Prop,S r->(∀p x a,S p->N[p]? = some x->a∈bV g x->S (aH a.to))->∀p∈out,S p
def z8e(u:US ws g N1 C aH d D)(hn:D<n)(hN:N1.length<=1000000)(hC:tot C<=1000000){r:Nat}:∀(m i:Nat)(out:X Nat),out.Nodup->(∀k∈out,k<N1.length)->(∀k∈out,aH k=k)->r∈out->N1.length-i<m->i<=out.length->
  (∀(j p:Nat),j<i->out[j]? = some p->∀x,N1[p]? = some x->∀a∈bV g x,aH a.to∈out)->(∀S:Nat->Prop,S r->(∀p x a,S p->N1[p]? = some x->a∈bV g x->S (aH a.to))->∀p∈out,S p)->
  ∃o,VY N1 g n m i out=some o/\RO g N1 aH r o
 |0,i,out,h1,h2,_,_,hm,hi,_,_=>by omega
 |m+1,i,out,h1,h2,h3,h4,hm,hi,h5,h6=>by
  have hl:=ai h1 h2;rw[VY];by_cases aE:i<out.length;obtain⟨p,hp⟩:=fE aE;have yY:=zX hp;obtain⟨x,hx⟩:=fE (h2 p yY);have lU:=u.alen hx (h3 p yY);rw[decide_eq_true aE,zC,hp,aM,hx,aM,aF,if_pos ⟨by omega,by omega⟩];obtain⟨t,g1,g2,g3,g4⟩:=i_ u hn hN (bV g x) out (u.to hx) h1 h2;rw[g1,aM];refine z8e u hn hN hC m (i+1) (out++t) g2 (fun k hk=>?_) (fun k hk=>?_) (List.mem_append_left _ h4) qq0 (by rw[zU];omega) (fun j q hj hq y hy a ha=>?_) fun S hS hc q hq=>?_;rcases yD.1 hk with hk |hk
  exact h2 k hk;obtain⟨a,ha,rfl⟩:=g3 k hk;exact u.rok.lt _ (u.to hx a ha);rcases yD.1 hk with hk |hk;exact h3 k hk;obtain⟨a,ha,rfl⟩:=g3 k hk;exact u.rok.idem _ (u.to hx a ha);rw[List.getElem?_append_left qq0]at hq;rcases Nat.lt_succ_iff_lt_or_eq.1 hj with hj |rfl;exact List.mem_append_left _ (h5 j q hj hq y hy a ha);rw[hp]at hq;cases hq;rw[hx]at hy;cases hy;exact g4 a ha;rcases yD.1 hq with hq |hq;exact h6 S hS hc q hq;obtain⟨a,ha,rfl⟩:=g3 q hq;exact hc p x a (h6 S hS hc p yY) hx ha;rw[decide_eq_false aE,zD];refine⟨out,rfl,h1,h2,h3,h4,fun p hp x hx a ha=>?_,h6⟩;obtain⟨j,hj⟩:=List.getElem?_of_mem hp;exact h5 j p (by have:=(zG.1 hj).1;omega) hj x hx a ha
def KM(g:Int)(x y:PN):Prop:=y={ x with ch:=y.ch,chA:=y.chA }/\(y.chA=x.chA\/y.chA=g)
structure A5(g:Int)(N1 N:X PN):Prop where
 len:N.length=N1.length
 st:∀(i:Nat)(x:PN),N1[i]? = some x->∃y,N[i]? = some y/\KM g x y
def KM.kk(h:KM g x y):KK x y:=by rw[h.1];exact⟨rfl,rfl,rfl,rfl,rfl,rfl,rfl,rfl⟩
def A5.kp(h:A5 g N1 N):Kp N1 N:=fun i x hx=>by
 obtain⟨y,h1,h2⟩:=h.st i x hx;exact⟨y,h1,h2.kk⟩
def A5.refl(g:Int)(N:X PN):A5 g N N:=⟨rfl,fun i x hx=>⟨x,hx,rfl,.inl rfl⟩⟩
def A5.set(h:A5 g N1 N){p:Nat}{y:PN}(hy:N[p]? = some y)(c:PE):A5 g N1 (N.set p { y with ch:=c,chA:=g }):=⟨by simp[h.len],fun i x hx=>by
 obtain⟨z,h1,h2⟩:=h.st i x hx;by_cases e:p=i;subst e;rw[hy]at h1;cases h1;refine⟨{ y with ch:=c,chA:=g },by rw[List.getElem?_set_self (oB hy)],?_,.inr rfl⟩;rw[h2.1];exact⟨z,by rw[List.getElem?_set_ne e];exact h1,h2⟩⟩
def dR(g:Int)(N:X PN)(p:Nat):PE:=match N[p]? with
 |some x=>yQ g x|none=>false
def Oj(h:N[p]? = some x):dR g N p=yQ g x:=by rw[dR,h]
def re{q:Nat}(hy:N[p]? = some y)(c:PE):dR g (N.set p { y with ch:=c,chA:=g }) q=if q=p then c else dR g N q:=by by_cases e:q=p;subst e;rw[if_pos rfl,Oj (x:={ y with ch:=c,chA:=g }) (by rw[List.getElem?_set_self (oB hy)])];simp[yQ];rw[if_neg e,dR,dR,List.getElem?_set_ne (Ne.symm e)]
def Lf(g:Int)(aH:Nat->Nat)(x:PN):PE:=gP g x != x.kind||(decide (((gN g x).length:Int)>0)||x.arcs.any fun a=>!Nat.beq (aH a.to) a.to)
def z6x{v12:Type}{f h:v12->PE}:∀{l:X v12},(∀a∈l,f a=h a)->l.any f=l.any h
 |[],_=>rfl|a::l,q=>by rw[List.any_cons,List.any_cons,q a qq4,z6x fun b hb=>q b (by simp[hb])]
def T4(u:US ws g N1 C aH d D)(hn:D<n)(hs:∀x∈N1,x.arcs.length<=1000000):∀(l:X Nat)(N:X PN),A5 g N1 N->(∀p∈l,p<N1.length)->
  ∃N',ZQ g n l N=some N'/\A5 g N1 N'/\(∀p∈l,∀x,N1[p]? = some x->dR g N' p=Lf g aH x)/\∀p,p ∉ l->N'[p]? = N[p]?
 |[],N,h,_=>⟨N,rfl,h,nofun,fun _ _=>rfl⟩|p::l,N,h,hl=>by
  obtain⟨x,hx⟩:=fE (hl p qq4);obtain⟨y,hy,hk⟩:=h.st p x hx;have kk:=hk.kk;obtain⟨e1,e2,e3⟩:=kk.pk g;have pS:∀a∈x.arcs,a.to<N1.length:=(u.wf.at hx).arcs;have hf:Gb N g n y.arcs=true:=by rw[Gb,kk.arcs,List.all_eq_true];intro a ha;rw[u.fnd h.kp hn (pS a ha)];rfl
  have hm:y.arcs.any (MA N g n)=x.arcs.any fun a=>!Nat.beq (aH a.to) a.to:=by rw[kk.arcs];refine z6x fun a ha=>?_;rw[MA,u.fnd h.kp hn (pS a ha)]
  have hb:(gP g y != y.kind||(decide (((gN g y).length:Int)>0)||y.arcs.any (MA N g n)))=Lf g aH x:=by rw[hm,e1,e2,kk.kind];rfl
  rw[ZQ,hy,aM,hf,zC,aF,if_pos (by rw[kk.arcs];exact hs x (zX hx)),hb];obtain⟨N',g1,g2,g3,g4⟩:=T4 u hn hs l _ (h.set hy (Lf g aH x)) fun q hq=>hl q (List.mem_cons_of_mem _ hq);refine⟨N',g1,g2,fun q hq z hz=>?_,fun q hq=>?_⟩;by_cases yX:q∈l;exact g3 q yX z hz;have:q=p:=(zI.1 hq).resolve_right yX;subst this;rw[hx]at hz;cases hz;rw[dR,g4 q yX,<-dR,re hy,if_pos rfl];rw[g4 q fun h=>hq (List.mem_cons_of_mem _ h),List.getElem?_set_ne fun e=>hq (by rw[e];simp)]
def z6y(h:A5 g N1 N):∀(l:X eC),(∀a∈l,a.to<N1.length)->HH g N l=some (l.any fun a=>dR g N a.to)
 |[],_=>rfl|a::l,hl=>by obtain⟨x,hx⟩:=fE (l:=N) (i:=a.to) (by rw[h.len];exact hl a qq4);rw[HH,hx,aM,List.any_cons,Oj hx];rcases yQ g x with _|_;rw[zD,z6y h l fun b hb=>hl b (List.mem_cons_of_mem _ hb),Bool.false_or];rfl
def we(wf:Wf N1)(hs:∀x∈N1,x.arcs.length<=1000000):∀(l:X Nat)(ag:PE)(N:X PN),A5 g N1 N->(∀p∈l,p<N1.length)->
  ∃ag' N',JY g l ag N=some (ag',N')/\A5 g N1 N'/\(∀p,dR g N p=true->dR g N' p=true)/\(∀p,p ∉ l->N'[p]? = N[p]?)/\ (ag'=false->ag=false/\N'=N/\∀p∈l,dR g N p=false->∀x,N1[p]? = some x->∀a∈x.arcs,dR g N a.to=false)/\(ag'=true->ag=true\/∃p∈l,dR g N p=false/\dR g N' p=true)
 |[],ag,N,h,_=>⟨ag,N,rfl,h,fun _ h=>h,fun _ _=>rfl,fun e=>⟨e,rfl,nofun⟩,fun e=>.inl e⟩|p::l,ag,N,h,hl=>by
  obtain⟨x,hx⟩:=fE (hl p qq4);obtain⟨y,hy,hk⟩:=h.st p x hx;have kk:=hk.kk;have BE:∀q∈l,q<N1.length:=fun q hq=>hl q (List.mem_cons_of_mem _ hq);have IG:∀{q},q ∉ p::l->q ∉ l:=fun hq h=>hq (List.mem_cons_of_mem _ h);rw[JY,hy,aM];cases hc:yQ g y with
  |true=>rw[zC];obtain⟨ag',N',g1,g2,g3,g4,g5,g6⟩:=we wf hs l ag N h BE;refine⟨ag',N',g1,g2,g3,fun q hq=>g4 q (IG hq),fun e=>⟨(g5 e).1,(g5 e).2.1,fun q hq TO=>?_⟩,fun e=>(g6 e).imp id fun⟨q,a,b⟩=>⟨q,List.mem_cons_of_mem _ a,b⟩⟩;rcases zI.1 hq with rfl |hq;rw[Oj hy,hc]at TO;cases TO;exact(g5 e).2.2 q hq TO
  |false=>
   have pS:∀a∈y.arcs,a.to<N1.length:=by rw[kk.arcs];exact(wf.at hx).arcs
   rw[zD,aF,if_pos (by rw[kk.arcs];exact hs x (zX hx)),z6y h _ pS,aM];cases ha:y.arcs.any fun a=>dR g N a.to with
   |true=>
    rw[zC];obtain⟨ag',N',g1,g2,g3,g4,g5,g6⟩:=we wf hs l true _ (h.set hy true) BE;have E8:∀q,dR g N q=true->dR g (N.set p { y with ch:=true,chA:=g }) q=true:=fun q hq=>by rw[re hy];split<;>simp[hq]
    refine⟨ag',N',g1,g2,fun q hq=>g3 q (E8 q hq),fun q hq=>?_,fun e=>?_,fun e=>.inr ⟨p,by simp,by rw[Oj hy,hc],g3 p (by rw[re hy,if_pos rfl])⟩⟩;rw[g4 q (IG hq),List.getElem?_set_ne fun e=>hq (by rw[e];simp)];cases (g5 e).1
   |false=>rw[zD];obtain⟨ag',N',g1,g2,g3,g4,g5,g6⟩:=we wf hs l ag N h BE;refine⟨ag',N',g1,g2,g3,fun q hq=>g4 q (IG hq),fun e=>⟨(g5 e).1,(g5 e).2.1,fun q hq TO z hz a haz=>?_⟩,fun e=>(g6 e).imp id fun⟨q,a,b⟩=>⟨q,List.mem_cons_of_mem _ a,b⟩⟩;rcases zI.1 hq with rfl |hq;rw[hx]at hz;cases hz;rw[<-kk.arcs]at haz;have:=List.any_eq_false.1 ha a haz;simpa using this;exact(g5 e).2.2 q hq TO z hz a haz
def MG(g:Int)(l:X Nat)(N:X PN):Nat:=(l.filter fun p=>!dR g N p).length
def qz4{N N':X PN}(h:∀p,dR g N p=true->dR g N' p=true):∀l:X Nat,MG g l N'<=MG g l N
 |[]=>zF _|p::l=>by
  have ih:=qz4 h l;unfold MG at ih ⊢;rw[List.filter_cons,List.filter_cons];cases h1:dR g N p with
  |true=>rw[h p h1];simpa using ih|false=>cases dR g N' p<;>simp<;>omega
def qz5{N N':X PN}(h:∀p,dR g N p=true->dR g N' p=true):∀l:X Nat,(∃p∈l,dR g N p=false/\dR g N' p=true)->MG g l N'<MG g l N
 |[],⟨p,hp,_⟩=>(List.not_mem_nil hp).elim|p::l,⟨q,hq,h1,h2⟩=>by
  have pU:=qz4 h l;unfold MG at pU ⊢;rw[List.filter_cons,List.filter_cons];rcases zI.1 hq with rfl |hq;rw[h1,h2];simp;omega;have ih:=qz5 h l ⟨q,hq,h1,h2⟩;unfold MG at ih;cases h3:dR g N p with
  |true=>rw[h p h3];simpa using ih|false=>cases dR g N' p<;>simp<;>omega
def T3(wf:Wf N1)(hs:∀x∈N1,x.arcs.length<=1000000){l:X Nat}(hl:∀p∈l,p<N1.length):∀(m:Nat)(N:X PN),A5 g N1 N->MG g l N<m->
  ∃N',ZP g l m N=some N'/\A5 g N1 N'/\(∀p,dR g N p=true->dR g N' p=true)/\(∀p,p ∉ l->N'[p]? = N[p]?)/\∀p∈l,dR g N' p=false->∀x,N1[p]? = some x->∀a∈x.arcs,dR g N' a.to=false
 |0,N,_,hm=>by omega
 |m+1,N,h,hm=>by
  obtain⟨ag,N2,g1,g2,g3,g4,g5,g6⟩:=we wf hs l false N h hl;rw[ZP,g1,aM];cases ag with
  |false=>rw[zD];obtain⟨_,e,q⟩:=g5 rfl;simp only at e ⊢;subst e;exact⟨N2,rfl,g2,g3,g4,q⟩
  |true=>rw[zC];have:=qz5 g3 l ((g6 rfl).resolve_left qq4);obtain⟨N',k1,k2,k3,k4,k5⟩:=T3 wf hs hl m N2 g2 qq0;exact⟨N',k1,k2,fun p hp=>k3 p (g3 p hp),fun p hp=>by rw[k4 p hp,g4 p hp],k5⟩
structure MO(g:Int)(aH:Nat->Nat)(N1 N:X PN)(l:X Nat):Prop where
 km:A5 g N1 N
 out:∀p,p ∉ l->N[p]? = N1[p]?
 bs:∀p∈l,dR g N p=false->∀x,N1[p]? = some x->Lf g aH x=false
 cl:∀p∈l,dR g N p=false->∀x,N1[p]? = some x->∀a∈x.arcs,dR g N a.to=false
def z9p(u:US ws g N1 C aH d D)(hn:D<n)(hs:∀x∈N1,x.arcs.length<=1000000){l:X Nat}(hl:∀p∈l,p<N1.length)(rL:l.length<n/\l.length<=1000000):∃N,Lo g n l N1=some N/\MO g aH N1 N l:=by obtain⟨N2,g1,g2,g3,g4⟩:=T4 u hn hs l N1 (A5.refl g N1) hl;obtain⟨N,k1,k2,k3,k4,k5⟩:=T3 u.wf hs hl n N2 g2 (by have:MG g l N2<=l.length:=List.length_filter_le _ _;omega);refine⟨N,by rw[Lo,aF,if_pos rL.2,g1,aM,k1],k2,fun p hp=>by rw[k4 p hp,g4 p hp],fun p hp hc x hx=>?_,k5⟩;rcases hb:Lf g aH x with _|_;rfl;have:=k3 p (by rw[g3 p hp x hx,hb]);rw[this]at hc;cases hc
end
structure B'(d' d:X eC):Prop where
 pm:d'.Perm d
 up:d'.Pairwise fun a b=>a.f<b.f
def za1{d:X eC}(hl:d.length<=1000000)(hd:d.Pairwise fun a b=>a.f≠b.f)(hr:∀a∈d,0<=a.f/\a.f<1000):∃d',HG d=some d'/\B' d' d:=by
 have hw:∀x∈d,∀y∈d,gR (fun a b:eC=>some (RowKit.wrap64 (a.f-b.f))) x y=decide (x.f<y.f):=fun x hx y hy=>by
  have h1:=hr x hx;have h2:=hr y hy;have:RowKit.wrap64 (x.f-y.f)=x.f-y.f:=by unfold RowKit.wrap64;omega
  simp only[gR,Option.getD_some,this];rw[Bool.eq_iff_iff];simp;omega
 have eqd:∀x∈d,∀y∈d,x.f=y.f->x=y:=by
  clear hw hr hl;induction d with
  |nil=>intro x hx;cases hx|cons a d ih=>obtain⟨h1,h2⟩:=List.pairwise_cons.1 hd;intro x hx y hy e;rcases zI.1 hx with e1 |kx<;>rcases zI.1 hy with e2 |ky;rw[e1,e2];subst e1;exact absurd e (h1 y ky);subst e2;exact absurd e.symm (h1 x kx);exact ih h2 x kx y ky e
 have IE:v02 JD (fun a b:eC=>some (RowKit.wrap64 (a.f-b.f))) d=true:=by
  unfold v02;rw[List.all_eq_true];intro x hx;rw[Bool.and_eq_true,Bool.not_eq_true',List.all_eq_true];refine⟨by rw[hw x hx x hx];simp,fun y hy=>?_⟩;rw[Bool.and_eq_true,Bool.and_eq_true,List.all_eq_true];refine⟨rfl,?_,fun z hz=>?_⟩;rw[hw x hx y hy,hw y hy x hx];by_cases e:x.f=y.f;have:=eqd x hx y hy e;subst this;simp[JD];have:x.f<y.f\/y.f<x.f:=by omega
  rcases this with h |h<;>simp[h];rw[hw x hx y hy,hw y hy z hz,hw x hx z hz];rw[Bool.and_eq_true,Bool.or_eq_true,Bool.or_eq_true,Bool.or_eq_true,Bool.not_eq_true',Bool.not_eq_true',Bool.and_eq_false_iff,decide_eq_true_iff,decide_eq_true_iff,decide_eq_true_iff,decide_eq_false_iff_not,decide_eq_false_iff_not,decide_eq_false_iff_not];omega
 refine⟨_,by rw[HG,qv,IE,Bool.and_true,Nat.ble_eq_true_of_le hl,zC],NF _ _,?_⟩;have hS:=qnj qza IE;have h1:Asc _ _:=c_ hS d fun y hy=>hy;have h2:(srt (gR fun a b:eC=>some (RowKit.wrap64 (a.f-b.f))) d).Pairwise fun a b=>a.f≠b.f:=(NF _ d).symm.pairwise hd fun{a b} h=>Ne.symm h;have h3:∀x∈srt (gR fun a b:eC=>some (RowKit.wrap64 (a.f-b.f))) d,x∈d:=fun x hx=>(NF _ d).mem_iff.1 hx;revert h1 h2 h3;generalize srt (gR fun a b:eC=>some (RowKit.wrap64 (a.f-b.f))) d=s;intro h1 h2 h3;unfold Asc at h1;have:=List.Pairwise.and h1 h2;refine List.Pairwise.imp_of_mem (fun{a b} ha hb h=>?_) this;have h4:=h.1;rw[hw b (h3 b hb) a (h3 a ha)]at h4;have h5:=h.2;simp at h4;omega
section
variable{ws:X Nat}{g:Int}{Nu N1:X PN}{C:X Gcell}{aH d:Nat->Nat}{D n:Nat}
def j8(g:Int)(N1:X PN)(out:X Nat)(i:Nat):Nat:=if dR g N1 i=true then N1.length+(out.filter (dR g N1)).idxOf i else i
structure P1(g:Int)(N1:X PN)(out dn:X Nat)(N:X PN):Prop where
 len:N.length=N1.length+(dn.filter (dR g N1)).length
 old1:∀(i:Nat)(x:PN),N1[i]? = some x->i ∉ dn->N[i]? = some x
 old2:∀(i:Nat)(x:PN),N1[i]? = some x->i∈dn->N[i]? = some { x with cp:=some (j8 g N1 out i),cpA:=g }
 new:∀(k p:Nat)(x:PN),(dn.filter (dR g N1))[k]? = some p->N1[p]? = some x->N[N1.length+k]? = some (gO (gP g x) [])
def z85{out dn l:X Nat}{p:Nat}(ho:out=dn++p::l)(oS:out.Nodup)(hc:dR g N1 p=true):j8 g N1 out p=N1.length+(dn.filter (dR g N1)).length:=by
 rw[j8,if_pos hc,ho,List.filter_append,List.filter_cons,hc,if_pos rfl,List.idxOf_append];have:p ∉ dn.filter (dR g N1):=fun h=>by have h:=(List.mem_filter.1 h).1;rw[ho,List.nodup_append]at oS;exact oS.2.2 p h p qq4 rfl
 rw[if_neg this];simp
def qv3{l:X Nat}{p q k:Nat}(h:(l++[p])[k]? = some q):l[k]? = some q\/(k=l.length/\q=p):=by
 by_cases hk:k<l.length;rw[List.getElem?_append_left hk]at h;exact .inl h;rw[List.getElem?_append_right qq0]at h;have h1:k-l.length<1:=(zG.1 h).1;have h2:k-l.length=0:=by omega
 rw[h2]at h;simp at h;exact .inr ⟨by omega,h.symm⟩
def A'{out:X Nat}(oS:out.Nodup)(aE:∀p∈out,p<N1.length):∀(l dn:X Nat)(N:X PN)(s:Int),out=dn++l->P1 g N1 out dn N->0<=s->s+(l.length:Int)<=1000000->
  ∃N',SS g l N s=some (N',s+((l.filter (dR g N1)).length:Int))/\P1 g N1 out out N'
 |[],dn,N,s,ho,h,_,_=>by
  have:dn=out:=by rw[ho];simp
  subst this;exact⟨N,by simp[SS],h⟩
 |p::l,dn,N,s,ho,h,h0,hs=>by
  have hp:=aE p (by rw[ho];simp);obtain⟨x,hx⟩:=fE hp;have hpd:p ∉ dn:=fun q=>by rw[ho,List.nodup_append]at oS;exact oS.2.2 p q p qq4 rfl
  have hN:=h.old1 p x hx hpd;have hl:=h.len;have hpN:p<N.length:=oB hN;simp only[zO]at hs;rw[SS,hN,aM,<-Oj (N:=N1) hx,List.filter_cons];cases hc:dR g N1 p with
  |true=>
   rw[zC,if_pos rfl];have cJ:=z85 ho oS hc;have hw:IntKind.i64.wrap (s+1)=s+1:=oZ qq0 qq0;rw[hw];have hP:P1 g N1 out (dn++[p]) ((N++[gO (gP g x) []]).set p { x with cp:=some N.length,cpA:=g }):=by
    have hf:(dn++[p]).filter (dR g N1)=dn.filter (dR g N1)++[p]:=by simp[List.filter_append,hc]
    refine⟨by rw[hf];simp;omega,fun i y hy hi=>?_,fun i y hy hi=>?_,fun k q y hk hy=>?_⟩;have i5:i ∉ dn/\i≠p:=by simpa using hi
    rw[List.getElem?_set_ne (Ne.symm i5.2),List.getElem?_append_left (by rw[hl];have:=oB hy;omega)];exact h.old1 i y hy i5.1;by_cases e:i=p;subst e;rw[hx]at hy;cases hy;rw[List.getElem?_set_self (by simp;omega),cJ,hl];have i5:i∈dn:=by simpa[e]using hi
    rw[List.getElem?_set_ne (Ne.symm e),List.getElem?_append_left (by rw[hl];have:=oB hy;omega)];exact h.old2 i y hy i5;rw[hf]at hk;rw[List.getElem?_set_ne qq0];rcases qv3 hk with hk |⟨rfl,rfl⟩;have:=(zG.1 hk).1;rw[List.getElem?_append_left qq0];exact h.new k q y hk hy;rw[hx]at hy;cases hy;rw[List.getElem?_append_right qq0];simp[hl]
   obtain⟨N',g1,g2⟩:=A' oS aE l (dn++[p]) _ (s+1) (by rw[ho];simp) hP qq0 qq0;exact⟨N',by rw[g1,zO];congr 2;omega,g2⟩
  |false=>
   rw[zD,if_neg qq4];have hP:P1 g N1 out (dn++[p]) (N.set p { x with cp:=some p,cpA:=g }):=by
    have hf:(dn++[p]).filter (dR g N1)=dn.filter (dR g N1):=by simp[List.filter_append,hc]
    refine⟨by rw[hf];simp;omega,fun i y hy hi=>?_,fun i y hy hi=>?_,fun k q y hk hy=>?_⟩;have i5:i ∉ dn/\i≠p:=by simpa using hi
    rw[List.getElem?_set_ne (Ne.symm i5.2)];exact h.old1 i y hy i5.1;by_cases e:i=p;subst e;rw[hx]at hy;cases hy;rw[List.getElem?_set_self hpN,j8,hc,if_neg qq4];have i5:i∈dn:=by simpa[e]using hi
    rw[List.getElem?_set_ne (Ne.symm e)];exact h.old2 i y hy i5;rw[hf]at hk;rw[List.getElem?_set_ne qq0];exact h.new k q y hk hy
   exact A' oS aE l (dn++[p]) _ s (by rw[ho];simp) hP h0 qq0
def P1.nil(out:X Nat):P1 g N1 out [] N1:=⟨by simp,fun _ _ h _=>h,fun _ _ _ h=>(List.not_mem_nil h).elim,fun _ _ _ h=>by simp at h⟩
def LO(g:Int)(N1:X PN)(out:X Nat)(aH:Nat->Nat)(a:eC):eC:=⟨a.f,j8 g N1 out (aH a.to)⟩
def z7a(u:US ws g Nu C aH d D)(hn:D<n){N:X PN}(hK:Kp Nu N){out:X Nat}(ho:∀p∈out,∃y,N[p]? = some y/\y.cp=some (j8 g N1 out p)/\y.cpA=g):∀(l dd:X eC),(∀a∈l,a.to<Nu.length/\aH a.to∈out)->dd.length+l.length<=1000000->VZ N g n l dd=some (dd++l.map (LO g N1 out aH))
 |[],dd,_,_=>by simp[VZ]
 |a::l,dd,hl,hs=>by
  obtain⟨h1,h2⟩:=hl a qq4;obtain⟨y,hy,hc,hcA⟩:=ho _ h2;simp only[zO]at hs;have Da:G4 g y=some (j8 g N1 out (aH a.to)):=by rw[G4,hcA,hc];simp
  rw[VZ,u.fnd hK hn h1,aM,hy,aM,Da,aM,aF,if_pos qq0,z7a u hn hK ho l _ (fun b hb=>hl b (List.mem_cons_of_mem _ hb)) (by simp;omega)];simp[LO]
structure P2(g:Int)(N1 N2:X PN)(aH:Nat->Nat)(out dn:X Nat)(N:X PN):Prop where
 len:N.length=N2.length
 old:∀i,i<N1.length->N[i]? = N2[i]?
 don:∀(k p:Nat)(x:PN),(dn.filter (dR g N1))[k]? = some p->N1[p]? = some x->∃d',N[N1.length+k]? = some (gO (gP g x) d')/\B' d' ((bV g x).map (LO g N1 out aH))
 rst:∀k,(dn.filter (dR g N1)).length<=k->N[N1.length+k]? = N2[N1.length+k]?
def tz(u:US ws g Nu C aH d D)(hn:D<n)(hK1:Kp Nu N1)(hL1:N1.length=Nu.length){out:X Nat}(oS:out.Nodup)(aE:∀p∈out,p<N1.length){N2:X PN}(h2:P1 g N1 out out N2)
  (ha:∀p∈out,∀x,N1[p]? = some x->(bV g x).length<=1000000/\(bV g x).Pairwise (fun a b=>a.f≠b.f)/\∀a∈bV g x,(0<=a.f/\a.f<1000)/\a.to<Nu.length/\aH a.to∈out):∀(l dn:X Nat)(N:X PN),out=dn++l->P2 g N1 N2 aH out dn N->
  ∃N',OJ g n l N (N1.length+(dn.filter (dR g N1)).length)=some N'/\P2 g N1 N2 aH out out N'
 |[],dn,N,ho,h=>by
  have:dn=out:=by rw[ho];simp
  subst this;exact⟨N,by rw[OJ,aF,if_pos (by rw[h.len,h2.len])],h⟩
 |p::l,dn,N,ho,h=>by
  have hpo:p∈out:=by rw[ho];simp
  have hp:=aE p hpo;obtain⟨x,hx⟩:=fE hp;have hN:N[p]? = some { x with cp:=some (j8 g N1 out p),cpA:=g }:=by rw[h.old p hp];exact h2.old2 p x hx hpo
  have Da:G4 g { x with cp:=some (j8 g N1 out p),cpA:=g }=some (j8 g N1 out p):=by simp[G4]
  rw[OJ,hN,aM,Da,aM];cases hc:dR g N1 p with
  |false=>
   have e1:Nat.beq (j8 g N1 out p) p=true:=by rw[beq_eq,j8,hc];simp
   rw[e1,zC];have hf:(dn++[p]).filter (dR g N1)=dn.filter (dR g N1):=by simp[List.filter_append,hc]
   have:=tz u hn hK1 hL1 oS aE h2 ha l (dn++[p]) N (by rw[ho];simp) ⟨h.len,h.old,fun k q y hk hy=>h.don k q y (by rw[hf]at hk;exact hk) hy,fun k hk=>h.rst k (by rw[hf]at hk;exact hk)⟩;rw[hf]at this;exact this
  |true=>
   have cJ:=z85 ho oS hc;have e1:Nat.beq (j8 g N1 out p) p=false:=by rw[beq_eq,cJ];simp;omega
   have hf:(dn++[p]).filter (dR g N1)=dn.filter (dR g N1)++[p]:=by simp[List.filter_append,hc]
   have hfo:(out.filter (dR g N1))[(dn.filter (dR g N1)).length]? = some p:=by rw[ho,List.filter_append,List.filter_cons,hc,if_pos rfl,List.getElem?_append_right (zF _)];simp
   have hNq:N[j8 g N1 out p]? = some (gO (gP g x) []):=by rw[cJ,h.rst _ (zF _)];exact h2.new _ p x hfo hx
   obtain⟨a1,a2,a3⟩:=ha p hpo x hx;have gm:bV g { x with cp:=some (j8 g N1 out p),cpA:=g }=bV g x:=rfl;rw[e1,zD,hNq,aM,aF,if_pos ⟨cJ,by omega,by rw[gm];exact a1⟩,gm];have hK:Kp Nu N:=fun i z hz=>by obtain⟨y,hy,hk⟩:=hK1 i z hz;have hi:=oB hy;rw[h.old i hi];by_cases Kr:i∈out;exact⟨_,h2.old2 i y hy Kr,⟨hk.kind,hk.arcs,hk.fw,hk.fwA,hk.mt,hk.mtA,hk.more,hk.moA⟩⟩;exact⟨y,h2.old1 i y hy Kr,hk⟩
   have kQ:∀q∈out,∃y,N[q]? = some y/\y.cp=some (j8 g N1 out q)/\y.cpA=g:=fun q hq=>by obtain⟨z,hz⟩:=fE (aE q hq);exact⟨_,by rw[h.old q (aE q hq)];exact h2.old2 q z hz hq,rfl,rfl⟩
   rw[z7a u hn hK kQ (bV g x) [] (fun a ha=>(a3 a ha).2) (by simp;exact a1),aM,List.nil_append];obtain⟨d',k1,k2⟩:=za1 (d:=(bV g x).map (LO g N1 out aH)) (by simp;exact a1) (by rw[List.pairwise_map];exact a2) (fun b hb=>by obtain⟨a,ha,rfl⟩:=List.mem_map.1 hb;exact(a3 a ha).1);rw[k1,aM];have Bt:=oB hNq;have:=tz u hn hK1 hL1 oS aE h2 ha l (dn++[p]) (N.set (j8 g N1 out p) { gO (gP g x) []with arcs:=d' }) (by rw[ho];simp) ⟨by simp[h.len],fun i hi=>by rw[List.getElem?_set_ne qq0];exact h.old i hi,fun k q y hk hy=>?_,fun k hk=>?_⟩;rw[hf]at this;simpa[Nat.add_assoc]using this;rw[hf]at hk;rcases qv3 hk with hk |⟨rfl,rfl⟩;have:=(zG.1 hk).1;rw[List.getElem?_set_ne qq0];exact h.don k q y hk hy;rw[hx]at hy;cases hy;refine⟨d',?_,k2⟩;rw[<-cJ,List.getElem?_set_self Bt];rfl;rw[hf]at hk;simp at hk;rw[List.getElem?_set_ne qq0];exact h.rst k qq0
end
inductive Wk(f:GFS):Int->List Int->Int->Prop
 |nil (v:Int):Wk f v [] v
 |cons {v w:Int} {a:aR} {p:List Int}:a∈(nd f v).Arcs->Wk f a.To p w->Wk f v (a.Feat::p) w
variable{f:GFS}
variable{v:Int}
variable{w:Int}
def Wk.inv{q:X Int}(h:Wk f v q w):∀{x:Int}{p:X Int},q=x::p->∃b∈(nd f v).Arcs,b.Feat=x/\Wk f b.To p w:=by cases h with|nil=>intro x p e;cases e| @cons _ _ a p' ha hw=>intro x p e;cases e;exact⟨a,ha,rfl,hw⟩
variable{p:X Int}
def Wk.det(hg:kT f)(h:Wk f v p w):gS f v->∀{w'},Wk f v p w'->w'=w:=by induction h with|nil v=>intro _ w' h';cases h';rfl| @cons v w a p ha hw ih=>intro hv w' h';have hn:=hg _ (wB hv).2;obtain⟨b,hb,hf,nV⟩:=h'.inv rfl;have:=hn.dis.eq a ha b hb hf.symm;subst this;have:=hn.arc a ha;exact ih ⟨this.2.1,this.2.2⟩ nV
def Wk.ing(hg:kT f)(h:Wk f v p w)(hv:gS f v):gS f w:=by induction h with|nil v=>exact hv| @cons v w a p ha hw ih=>have:=(hg _ (wB hv).2).arc a ha;exact ih ⟨this.2.1,this.2.2⟩
def Wk.snoc(h:Wk f v p w){a:aR}(ha:a∈(nd f w).Arcs):Wk f v (p++[a.Feat]) a.To:=by induction h with|nil v=>exact .cons ha (.nil _)|cons hb _ ih=>exact .cons hb (ih ha)
def Rc(f:GFS)(v w:Int):Prop:=∃p,Wk f v p w
def Rc.refl(f:GFS)(v:Int):Rc f v v:=⟨[],.nil v⟩
def Rc.snoc{f:GFS}{v w:Int}(h:Rc f v w){a:aR}(ha:a∈(nd f w).Arcs):Rc f v a.To:=h.elim fun p hp=>⟨_,hp.snoc ha⟩
def Es(x:PN):Gcell:=⟨-1,x.kind,x.arcs.map gA⟩
variable{N:X PN}
variable{i:Nat}
variable{x:PN}
def YL(h:N[i]? = some x):bQ (N.map Es) i=Es x:=by simp[bQ,h]
def Old.pk{g:Int}(h:Old g x):gP g x=x.kind/\gN g x=[]/\bV g x=x.arcs:=by
 have h1:(x.mtA != g)=true:=by have:=h.mt;simp;omega
 have h2:(x.moA != g)=true:=by have:=h.mo;simp;omega
 have h3:gN g x=[]:=by rw[gN,h2];rfl
 exact⟨by rw[gP,h1];rfl,h3,by rw[bV,h3,List.append_nil]⟩
variable{ws:X Nat}
def Fq{g:Int}(c:CO N)(wf:Wf N)(ho:∀x∈N,Old g x)(hk:∀x∈N,0<=x.kind/\x.kind<(ws.length:Int)):US ws g N (N.map Es) id (fun _=>0) 0:=by refine⟨⟨fun i hi=>hi,fun _ _=>rfl,fun _ _=>rfl,fun _ _=>zF _⟩,fun i x hx _=>?_,fun i x hx h=>absurd rfl h,by simp,fun i x hx _=>?_,fun i x hx _=>?_,fun i hi=>?_,fun i hi _=>?_,wf,fun x hx=>(ho x hx).mid⟩;have:=(ho x (zX hx)).fw;simp;omega;rw[YL hx,(ho x (zX hx)).pk.1];rfl;rw[YL hx,(ho x (zX hx)).pk.2.2];rfl;obtain⟨x,hx⟩:=fE hi;rw[YL hx];exact(c.up x (zX hx)).dis;obtain⟨x,hx⟩:=fE hi;rw[YL hx];exact hk x (zX hx)
def Hc{j:Nat}{c:aO}(h:(core N).Nodes[j]? = some c):∃x,N[j]? = some x/\c=cN x:=by simp only[core,List.getElem?_map]at h;rcases hx:N[j]? with _|x;rw[hx]at h;cases h;rw[hx]at h;exact⟨x,rfl,(Option.some.inj h).symm⟩
def v_{j:Nat}(h:N[j]? = some x):(core N).Nodes[j]? = some (cN x):=by simp[core,h]
def Ab(c:CO N):A4 N.length ws (core N).Nodes:=⟨j7 N,fun j x a hj ha=>by
 have:=(c.gok x (zX hj)).arc a ha;rw[j7]at this;exact this.2⟩
def tc0(W:X (Int×Int)):TC ws N.length (core N).Nodes W (N.map Es) id:=by refine⟨fun j c a hj ha=>?_,fun i b hi _ hb=>?_,fun i hi _ k=>?_⟩;obtain⟨x,hx,rfl⟩:=Hc hj;exact⟨a,by rw[id,YL hx];exact ha,rfl,fun _ _ _=>rfl⟩;obtain⟨x,hx⟩:=fE hi;rw[YL hx]at hb;exact⟨i,cN x,v_ hx,rfl,hb⟩;obtain⟨x,hx⟩:=fE hi;rw[YL hx];constructor;intro h j c hj e;have e:j=i:=e;subst e;rw[v_ hx]at hj;cases hj;exact h;intro h;exact h i (cN x) (v_ hx) rfl
def qG(C:X Gcell)(aH:Nat->Nat)(N:Nat):GFS:=⟨(List.range N).map fun i=>if aH i=i then T0 aH (bQ C i)else⟨0,[]⟩⟩
variable{aH:Nat->Nat}
def ti{C:X Gcell}{N:Nat}(hi:i<N)(hr:aH i=i):(qG C aH N).Nodes[i]? = some (T0 aH (bQ C i)):=by simp[qG,hi,hr]
def S6{C:X Gcell}{N:Nat}(hi:i<N)(hr:aH i=i):nd (qG C aH N) (i:Int)=T0 aH (bQ C i):=by rw[nd,zZ,ti hi hr];rfl
def VL{l:X aR}(h:jC l):jC (l.map (VO aH)):=by unfold jC at*;rw[List.pairwise_map];exact h
section
variable{ws:X Nat}{g:Int}{Nu:X PN}{C:X Gcell}{aH d:Nat->Nat}{D n:Nat}{L:X aO}
def US.qgok(u:US ws g Nu C aH d D)(hL:A4 Nu.length ws L)(O:∀c∈L,∀a∈c.Arcs,0<=a.Feat)(tc:TC ws Nu.length L [] C aH):kT (qG C aH Nu.length):=fun x hx=>by
 have hl:(qG C aH Nu.length).Nodes.length=Nu.length:=by simp[qG]
 simp only[qG]at hx;obtain⟨i,hi,rfl⟩:=List.mem_map.1 hx;have hi:i<Nu.length:=by simpa using hi
 by_cases e:aH i=i;rw[if_pos e];refine⟨(u.kr i hi e).1,VL (u.ds i hi),fun a ha=>?_⟩;obtain⟨b,hb,rfl⟩:=List.mem_map.1 ha;obtain⟨j,c,h1,h2,h3⟩:=tc.snd i b hi e hb;have h4:=hL.ar j c b h1 h3;have h5:=u.rok.lt b.To.toNat qq0;rw[hl];simp only[VO,rI];exact⟨O c (zX h1) b h3,by omega,by omega⟩;rw[if_neg e];exact⟨Int.le_refl _,List.Pairwise.nil,nofun⟩
def US.qg(u:US ws g Nu C aH d D)(hL:A4 Nu.length ws L)(tc:TC ws Nu.length L [] C aH):QG ws L aH (qG C aH Nu.length):=by
 have hN:=hL.len;have node:∀{i:Nat}{x:aO},(qG C aH Nu.length).Nodes[i]? = some x->aH i=i->i<Nu.length/\x=T0 aH (bQ C i):=fun{i x} hx hr=>by
  have hi:i<Nu.length:=by have:=(zG.1 hx).1;simpa[qG]using this
  rw[ti hi hr]at hx;exact⟨hi,(Option.some.inj hx).symm⟩
 refine⟨by simp[qG,hN],fun i hi=>?_,fun i x hx hr=>?_,fun i x hx hr=>?_,fun j y a hj ha=>?_,fun i x b hx hr hb=>?_⟩;rw[hN]at hi ⊢;exact⟨u.rok.lt i hi,u.rok.idem i hi⟩;obtain⟨hi,rfl⟩:=node hx hr;exact⟨u.kr i hi hr,tc.kd i hi hr⟩;obtain⟨hi,rfl⟩:=node hx hr;exact VL (u.ds i hi);obtain⟨b,h1,h2,h3⟩:=tc.cov j y a hj ha;have jl:=(zG.1 hj).1;rw[hN]at jl;refine⟨T0 aH (bQ C (aH j)),VO aH b,ti (u.rok.lt j jl) (u.rok.idem j jl),List.mem_map_of_mem h1,h2,?_⟩;simp only[VO,rI];rw[h3 aH (fun _ _ _ _ e=>e) (fun _ hz=>by cases hz)];obtain⟨hi,rfl⟩:=node hx hr;obtain⟨b0,hb0,rfl⟩:=List.mem_map.1 hb;obtain⟨j,y,q1,q2,q3⟩:=tc.snd i b0 hi hr hb0;exact⟨j,y,b0,q1,q2,q3,rfl,rfl⟩
def US.clo(u:US ws g Nu C aH d D)(hL:A4 Nu.length ws L)(h:TC ws Nu.length L [] C aH):o9 L aH:=fun i j x y a b hi hj e ha hb hf=>by
 obtain⟨a',p1,p2,p3⟩:=h.cov i x a hi ha;obtain⟨b',q1,q2,q3⟩:=h.cov j y b hj hb;have il:=(zG.1 hi).1;rw[hL.len]at il;rw[<-e]at q1;have:a'=b':=(u.ds _ (u.rok.lt i il)).eq a' p1 b' q1 qq0;subst this;have e1:=p3 aH (fun _ _ _ _ e=>e) (fun _ hz=>by cases hz);have e2:=q3 aH (fun _ _ _ _ e=>e) (fun _ hz=>by cases hz);omega
def US.good(u:US ws g Nu C aH d D)(hL:A4 Nu.length ws L)(hw:∀w∈ws,w≠0)(h:TC ws Nu.length L [] C aH):¬ VW ws L aH:=fun⟨i,hi,hb⟩=>by
 rw[hL.len]at hi;have hr:=u.rok.lt i hi;have jX:=u.rok.idem i hi;have hk:=u.kr _ hr jX;obtain⟨k,jS⟩:=Nat.exists_testBit_of_ne_zero (hw _ (zX (FC hk)));obtain⟨j,x,q1,q2,q3⟩:=hb k;have:=(h.kd _ hr jX k).1 jS j x q1 q2;rw[q3]at this;cases this
def QG.wk{r:Nat->Nat}{q:GFS}(h:QG ws L r q)(hL:∀(j:Nat)(c:aO)(a:aR),L[j]? = some c->a∈c.Arcs->0<=a.To/\a.To<(L.length:Int))(hw:Wk ⟨L⟩ v p w):(0<=v/\v<(L.length:Int))->Wk q (r v.toNat:Int) p (r w.toNat:Int):=by
 induction hw with
 |nil v=>intro _;exact .nil _| @cons v w a p ha hw ih=>
  intro hv;obtain⟨c,hc⟩:=fE (l:=L) (i:=v.toNat) qq0;have e:nd ⟨L⟩ v=c:=by simp[nd,hc]
  rw[e]at ha;obtain⟨x,b,h1,h2,h3,h4⟩:=h.cov _ c a hc ha;have:=ih (hL _ c a hc ha);rw[<-h3];refine .cons (a:=b) ?_ (by rw[h4];exact this);simp[nd,h1];exact h2
end
structure ql(ws:X Nat)(g:Int)(Nu:X PN)(Q:GFS)(r:Nat)(N3:X PN)(c k:Nat)(out:X Nat)(Z:Nat->Nat):Prop where
 co:CO N3
 ex:Ex Nu.length Nu N3
 wf:Wf N3
 len:N3.length=Nu.length+k
 old:∀x∈N3,Old (g+1) x
 kr:∀x∈N3,0<=x.kind/\x.kind<(ws.length:Int)
 ft:∀x∈N3,∀a∈x.arcs,0<=a.f/\a.f<1000
 rt:c=Z r/\r∈out
 lt:∀p∈out,p<Nu.length/\Z p<N3.length
 img:∀p∈out,(nd (core N3) (Z p:Int)).Typex=(nd Q (p:Int)).Typex/\∀b,b∈(nd (core N3) (Z p:Int)).Arcs↔∃a∈(nd Q (p:Int)).Arcs,∃q:Nat,a.To=(q:Int)/\q∈out/\b=⟨a.Feat,(Z q:Int)⟩
 inj:∀p∈out,∀q∈out,Z p=Z q->p=q
 low:∀p∈out,Z p<Nu.length->Z p=p
 new:∀i,Nu.length<=i->i<N3.length->∃p∈out,Z p=i
 k:k<=out.length
 rch:∀p∈out,Rc Q (r:Int) (p:Int)
 cl:∀p∈out,∀a∈(nd Q (p:Int)).Arcs,∃q∈out,a.To=(q:Int)
 can:cO (core N3) (c:Int)=cO Q (r:Int)
 ord:out.length<=(bP Q (r:Int)).length
def Ju{v12 β:Type}[DecidableEq β]{R:v12->β->Prop}(hR:∀a x y,R a x->R a y->x=y):∀(A:X v12)(l:X β),l.Nodup->(∀x∈l,∃a∈A,R a x)->l.length<=A.length
 |[],[],_,_=>zF _|[],x::l,_,h=>by obtain⟨a,ha,_⟩:=h x qq4;cases ha
 |a::A,l,hn,h=>by
  by_cases hx:∃x∈l,R a x;obtain⟨x,hx,hr⟩:=hx;have h1:=Ju hR A (l.erase x) (hn.erase x) fun y hy=>by obtain⟨cR,qJ⟩:=hn.mem_erase_iff.1 hy;obtain⟨b,hb,q⟩:=h y qJ;rcases zI.1 hb with rfl |hb;exact absurd (hR _ _ _ q hr) cR;exact⟨b,hb,q⟩
  have h2:=List.length_erase_of_mem hx;simp only[zO];omega;have h1:=Ju hR A l hn fun y hy=>by obtain⟨b,hb,q⟩:=h y hy;rcases zI.1 hb with rfl |hb;exact absurd ⟨y,hy,q⟩ hx;exact⟨b,hb,q⟩
  simp only[zO];omega
def z57{l:X Nat}(h:l.Nodup){k p:Nat}(hk:k<l.length)(hp:l[k]=p):l.idxOf p=k:=by have hm:p∈l:=hp ▸ List.getElem_mem hk;have h1:=List.idxOf_lt_length_iff.2 hm;have h2:=List.getElem_idxOf h1;have h3:=List.pairwise_iff_getElem.1 h;rcases Nat.lt_trichotomy (l.idxOf p) k with e |e |e;exact absurd (h2.trans hp.symm) (h3 _ _ h1 hk e);exact e;exact absurd (hp.trans h2.symm) (h3 _ _ hk h1 e)
def z98{N:X PN}{K:Nat}(hl:N.length<=1000000)(hs:∀x∈N,x.arcs.length<=1000000)(hk:∀x∈N,0<=x.kind)(hu:∀x∈N,x.arcs.Pairwise fun a b=>a.f<b.f)(hf:∀x∈N,∀a∈x.arcs,0<=a.f)(wf:Wf N):CO N:=by
 have up:∀x∈N,lI (x.arcs.map gA):=fun x hx=>by unfold lI;rw[List.pairwise_map];exact hu x hx
 refine⟨fun y hy=>?_,up,hl,hs⟩;rw[j7];obtain⟨x,hx,rfl⟩:=List.mem_map.1 hy;refine⟨hk x hx,(up x hx).dis,fun a ha=>?_⟩;obtain⟨b,hb,rfl⟩:=List.mem_map.1 ha;have:=(wf x hx).arcs b hb;exact⟨hf x hx b hb,by simp only[gA];omega,by simp only[gA];omega⟩
def CO.up'{N:X PN}(c:CO N):∀x∈N,x.arcs.Pairwise fun a b=>a.f<b.f:=fun x hx=>by
 have:=c.up x hx;unfold lI at this;rw[List.pairwise_map]at this;exact this
section
variable{ws:X Nat}{g:Int}{Nu:X PN}{C:X Gcell}{aH d:Nat->Nat}{D n:Nat}
def Zi(u:US ws g Nu C aH d D)(co:CO Nu)(tc:TC ws Nu.length (core Nu).Nodes [] C aH)(hn:D<n/\Nu.length<n)(hN:2*Nu.length<=1000000)(hC:tot C<=1000000)
  (hk:∀x∈Nu,0<=x.kind/\x.kind<(ws.length:Int)) (hf:∀x∈Nu,∀a∈x.arcs,0<=a.f/\a.f<1000) (hg:0<=g) {s:Int} (h0:0<=s) (hs:s+(Nu.length:Int)<=1000000) {r:Nat} (hr:r<Nu.length) (hrr:aH r=r):
  ∃(c:Nat)(N3:X PN)(k:Nat)(out:X Nat)(Z:Nat->Nat),Ga g n Nu s r=some (c,N3,s+(k:Int))/\ql ws g Nu (qG C aH Nu.length) r N3 c k out Z:=by
 have hL:=Ab (ws:=ws) co;obtain⟨out,o1,o2⟩:=z8e u hn.1 qq0 hC (r:=r) n 0 [r] qq4 (fun k hk=>by simp at hk;subst hk;exact hr) (fun k hk=>by simp at hk;subst hk;exact hrr) qq4 qq0 qq4 (fun j p hj=>qq0) (fun S hS _ p hp=>by simp at hp;subst hp;exact hS);have BC:=ai o2.nd o2.lt;obtain⟨Nm,m1,m2⟩:=z9p u hn.1 co.sm o2.lt ⟨by omega,by omega⟩;have uI:=m2.km.len;have aE:∀p∈out,p<Nm.length:=fun p hp=>by rw[uI];exact o2.lt p hp
 obtain⟨N2,p1,p2⟩:=A' (g:=g) o2.nd aE out [] Nm s rfl (P1.nil out) h0 qq0;have nod:∀p∈out,∃x y,Nu[p]? = some x/\Nm[p]? = some y/\KM g x y/\gP g y=gP g x/\bV g y=bV g x/\(bQ C p).kind=gP g x/\(bQ C p).arcs=(bV g x).map gA:=fun p hp=>by obtain⟨x,hx⟩:=fE (o2.lt p hp);obtain⟨y,hy,hk⟩:=m2.km.st p x hx;obtain⟨e1,e2,e3⟩:=hk.kk.pk g;exact⟨x,y,hx,hy,hk,e1,e3,u.kd p x hx (o2.rp p hp),u.ar p x hx (o2.rp p hp)⟩
 have arcF:∀p∈out,∀x,Nu[p]? = some x->(bV g x).Pairwise (fun a b=>a.f≠b.f)/\∀a∈bV g x,(0<=a.f/\a.f<1000)/\a.to<Nu.length/\aH a.to∈out:=fun p hp x hx=>by
  have e:=u.ar p x hx (o2.rp p hp);refine⟨?_,fun a ha=>⟨?_,u.to hx a ha,o2.clo p hp x hx a ha⟩⟩;have:=u.ds p (o2.lt p hp);rw[e]at this;unfold jC at this;rw[List.pairwise_map]at this;exact this;have hm:gA a∈(bQ C p).arcs:=by rw[e];exact List.mem_map_of_mem ha
  obtain⟨j,c,q1,q2,q3⟩:=tc.snd p _ (o2.lt p hp) (o2.rp p hp) hm;obtain⟨z,hz,rfl⟩:=Hc q1;obtain⟨b,hb,e2⟩:=List.mem_map.1 q3;have:=hf z (zX hz) b hb;have e3:b.f=a.f:=congrArg aR.Feat e2;omega
 obtain⟨N3,q1,q2⟩:=tz u hn.1 m2.km.kp uI o2.nd aE p2 (fun p hp y hy=>by obtain⟨x,y',hx,qJ,_,_,e3,_,_⟩:=nod p hp;rw[hy]at qJ;cases qJ;rw[e3];exact⟨by have:=u.alen hx (o2.rp p hp);omega,arcF p hp x hx⟩) out [] N2 rfl ⟨rfl,fun _ _=>rfl,fun _ _ _ h=>by simp at h,fun _ _=>rfl⟩;have hN3:N3.length=Nu.length+(out.filter (dR g Nm)).length:=by rw[q2.len,p2.len,uI]
 have CT:(out.filter (dR g Nm)).length<=out.length:=List.length_filter_le _ _;have old:∀(i:Nat)(x:PN),Nu[i]? = some x->∃y,N3[i]? = some y/\KK x y/\(y.cpA=x.cpA\/y.cpA=g)/\(y.chA=x.chA\/y.chA=g)/\(EN N3.length y.cp):=fun i x hx=>by
  obtain⟨y,hy,hk⟩:=m2.km.st i x hx;have hi:=oB hy;have P5:EN N3.length x.cp:=EN.le qq0 (u.wf.at hx).cp;rw[q2.old i hi];by_cases Kr:i∈out
  ·refine⟨_,p2.old2 i y hy Kr,⟨hk.kk.kind,hk.kk.arcs,hk.kk.fw,hk.kk.fwA,hk.kk.mt,hk.kk.mtA,hk.kk.more,hk.kk.moA⟩,.inr rfl,hk.2,?_⟩;show j8 g Nm out i<N3.length;unfold j8;split
   ·next hc=>have:=List.idxOf_lt_length_iff.2 (List.mem_filter.2 ⟨Kr,hc⟩:i∈out.filter (dR g Nm));omega
   omega
  refine⟨y,p2.old1 i y hy Kr,hk.kk,.inl ?_,hk.2,?_⟩;rw[hk.1];rw[hk.1];exact P5
 have new:∀k,k<(out.filter (dR g Nm)).length->∃p x d',(out.filter (dR g Nm))[k]? = some p/\p∈out/\dR g Nm p=true/\Nu[p]? = some x/\N3[Nu.length+k]? = some (gO (gP g x) d')/\B' d' ((bV g x).map (LO g Nm out aH)):=fun k hk=>by obtain⟨p,hp⟩:=fE hk;have yY:=List.mem_filter.1 (zX hp);obtain⟨x,y,hx,hy,_,e1,e3,_,_⟩:=nod p yY.1;obtain⟨d',k1,k2⟩:=q2.don k p y hp hy;rw[e1,uI]at k1;rw[e3]at k2;exact⟨p,x,d',hp,yY.1,yY.2,hx,k1,k2⟩
 have pil:∀p∈out,j8 g Nm out p<N3.length:=fun p hp=>by
  unfold j8;split
  ·next hc=>have:=List.idxOf_lt_length_iff.2 (List.mem_filter.2 ⟨hp,hc⟩:p∈out.filter (dR g Nm));omega
  have:=o2.lt p hp;omega
 have nds:∀y∈N3,(0<=y.kind/\y.kind<(ws.length:Int))/\(y.arcs.Pairwise fun a b=>a.f<b.f)/\(∀a∈y.arcs,0<=a.f/\a.f<1000)/\y.arcs.length<=1000000/\kF N3.length y/\Old (g+1) y:=fun y hy=>by
  obtain⟨i,hi⟩:=List.getElem?_of_mem hy;by_cases jA:i<Nu.length;obtain⟨x,hx⟩:=fE jA;obtain⟨y',h1,h2,h3,h4,h5⟩:=old i x hx;rw[hi]at h1;cases h1;have g8:=zX hx;have w:=u.wf x g8;have m:=u.mid x g8;refine⟨by rw[h2.kind];exact hk x g8,by rw[h2.arcs];exact co.up' x g8,by rw[h2.arcs];exact hf x g8,by rw[h2.arcs];exact co.sm x g8,⟨?_,?_,?_,h5⟩,?_⟩;rw[h2.arcs];exact fun a ha=>by have:=w.arcs a ha;omega
  rw[h2.fw];exact EN.le qq0 w.fw;rw[h2.more];exact fun a ha=>by have:=w.more a ha;omega
  have q1:=m.fw;have q2:=m.mt;have q3:=m.mo;have q4:=m.cp;have q5:=m.ch;exact⟨by rw[h2.fwA];omega,by rw[h2.mtA];omega,by rw[h2.moA];omega,by rcases h3 with e |e<;>omega,by rcases h4 with e |e<;>omega⟩;have be:i<N3.length:=oB hi;obtain⟨p,x,d',k1,k2,k3,k4,k5,k6⟩:=new (i-Nu.length) qq0;rw[show Nu.length+(i-Nu.length)=i by omega,hi]at k5;cases k5;obtain⟨x',y',vL,_,_,_,_,e4,_⟩:=nod p k2;rw[k4]at vL;cases vL;have kr:=u.kr p (o2.lt p k2) (o2.rp p k2);rw[e4]at kr;have Wv:∀a∈d',∃b∈bV g x,a=LO g Nm out aH b:=fun a ha=>by obtain⟨b,hb,e⟩:=List.mem_map.1 (k6.pm.mem_iff.1 ha);exact⟨b,hb,e.symm⟩
  refine⟨kr,k6.up,fun a ha=>?_,?_,⟨fun a ha=>?_,trivial,nofun,trivial⟩,⟨by show(0:Int)<g+1;omega,by show(0:Int)<g+1;omega,by show(0:Int)<g+1;omega,by show(0:Int)<g+1;omega,by show(0:Int)<g+1;omega⟩⟩;obtain⟨b,hb,rfl⟩:=Wv a ha;exact((arcF p k2 x k4).2 b hb).1;show d'.length<=1000000;rw[k6.pm.length_eq,yA];have:=u.alen k4 (o2.rp p k2);omega;obtain⟨b,hb,rfl⟩:=Wv a ha;exact pil _ ((arcF p k2 x k4).2 b hb).2.2
 have co3:CO N3:=z98 (K:=0) qq0 (fun y hy=>(nds y hy).2.2.2.1) (fun y hy=>(nds y hy).1.1) (fun y hy=>(nds y hy).2.1) (fun y hy a ha=>((nds y hy).2.2.1 a ha).1) fun y hy=>(nds y hy).2.2.2.2.1;have ex:Ex Nu.length Nu N3:=⟨by omega,fun i x _ hx=>by obtain⟨y,h1,h2,_⟩:=old i x hx;exact⟨y,h1,h2.kind,h2.arcs⟩⟩;have img:∀p∈out,∃x y,Nu[p]? = some x/\N3[j8 g Nm out p]? = some y/\y.kind=gP g x/\y.arcs.Perm ((bV g x).map (LO g Nm out aH)):=fun p hp=>by
  obtain⟨x,y,hx,hy,hk,e1,e3,e4,e5⟩:=nod p hp;cases hc:dR g Nm p with
  |true=>
   have hm:=List.mem_filter.2 (⟨hp,hc⟩:p∈out/\dR g Nm p=true);obtain⟨q,x',d',k1,k2,k3,k4,k5,k6⟩:=new ((out.filter (dR g Nm)).idxOf p) (List.idxOf_lt_length_iff.2 hm);have:q=p:=by have h1:=List.getElem?_eq_getElem (List.idxOf_lt_length_iff.2 hm);rw[List.getElem_idxOf]at h1;rw[h1]at k1;exact(Option.some.inj k1).symm
   subst this;rw[hx]at k4;cases k4;refine⟨x,gO (gP g x) d',hx,?_,rfl,k6.pm⟩;rw[j8,hc,if_pos rfl,uI];exact k5
  |false=>
   obtain⟨z,h1,h2,_⟩:=old p x hx;have hb:=m2.bs p hp hc x hx;have iS:=m2.cl p hp hc x hx;unfold Lf at hb;simp only[Bool.or_eq_false_iff]at hb;obtain⟨b1,b2,b3⟩:=hb;have Ci:gP g x=x.kind:=by simpa using b1
   have fD:gN g x=[]:=by
    have:¬ ((gN g x).length:Int)>0:=by simpa using b2
    exact List.eq_nil_of_length_eq_zero qq0
   have gm:bV g x=x.arcs:=by rw[bV,fD,List.append_nil]
   have hmap:(bV g x).map (LO g Nm out aH)=x.arcs:=by
    rw[gm]
    conv=>rhs;rw[<-List.map_id' x.arcs]
    refine List.map_congr_left fun a ha=>?_;have h3:aH a.to=a.to:=by have:=List.any_eq_false.1 b3 a ha;simp only[Bool.not_eq_true,Bool.not_eq_false']at this;rw[beq_eq]at this;simpa using this
    have h4:=iS a ha;simp only[LO,h3,j8,h4];rfl
   refine⟨x,z,hx,by rw[j8,hc];exact h1,by rw[h2.kind,Ci],?_⟩;rw[hmap,h2.arcs]
 have inj:∀p∈out,∀q∈out,j8 g Nm out p=j8 g Nm out q->p=q:=fun p hp q hq e=>by
  have h1:=aE p hp;have h2:=aE q hq;unfold j8 at e;cases hc:dR g Nm p<;>cases hd:dR g Nm q<;>rw[hc,hd]at e<;>simp only[if_true,Bool.false_eq_true,if_false]at e;exact e;omega;omega;have e2:(out.filter (dR g Nm)).idxOf p=(out.filter (dR g Nm)).idxOf q:=by omega
  have uF:=List.idxOf_lt_length_iff.2 (List.mem_filter.2 (⟨hp,hc⟩:p∈out/\dR g Nm p=true));have gl:=List.idxOf_lt_length_iff.2 (List.mem_filter.2 (⟨hq,hd⟩:q∈out/\dR g Nm q=true));have g1:=List.getElem_idxOf uF;have g2:=List.getElem_idxOf gl;rw[<-g1,<-g2];congr 1
 have qnd:∀p∈out,nd (qG C aH Nu.length) (p:Int)=T0 aH (bQ C p):=fun p hp=>S6 (o2.lt p hp) (o2.rp p hp);have qarc:∀p∈out,∀x,Nu[p]? = some x->∀b,b∈(nd (qG C aH Nu.length) (p:Int)).Arcs↔∃a∈bV g x,b=⟨a.f,(aH a.to:Int)⟩:=fun p hp x hx b=>by rw[qnd p hp];simp only[T0];rw[u.ar p x hx (o2.rp p hp),List.map_map,List.mem_map];constructor;rintro⟨a,ha,rfl⟩;exact⟨a,ha,by simp[VO,gA,rI]⟩;rintro⟨a,ha,rfl⟩;exact⟨a,ha,by simp[VO,gA,rI]⟩
 have imgc:∀p∈out,(nd (core N3) (j8 g Nm out p:Int)).Typex=(nd (qG C aH Nu.length) (p:Int)).Typex/\∀b,b∈(nd (core N3) (j8 g Nm out p:Int)).Arcs↔∃a∈(nd (qG C aH Nu.length) (p:Int)).Arcs,∃q:Nat,a.To=(q:Int)/\q∈out/\b=⟨a.Feat,(j8 g Nm out q:Int)⟩:=fun p hp=>by
  obtain⟨x,y,hx,hy,Ci,yY⟩:=img p hp;rw[FF hy];refine⟨?_,fun b=>?_⟩;rw[qnd p hp];show y.kind=(bQ C p).kind;rw[Ci,u.kd p x hx (o2.rp p hp)];have hq:=qarc p hp x hx;constructor;intro hb;obtain⟨a,ha,rfl⟩:=List.mem_map.1 hb;obtain⟨a0,ha0,rfl⟩:=List.mem_map.1 (yY.mem_iff.1 ha);exact⟨⟨a0.f,(aH a0.to:Int)⟩,(hq _).2 ⟨a0,ha0,rfl⟩,aH a0.to,rfl,o2.clo p hp x hx a0 ha0,rfl⟩;rintro⟨a,ha,q,e1,e2,rfl⟩;obtain⟨a0,ha0,rfl⟩:=(hq a).1 ha;have e1:((aH a0.to:Nat):Int)=(q:Int):=e1;have:q=aH a0.to:=by omega
  subst this;exact List.mem_map.2 ⟨LO g Nm out aH a0,yY.mem_iff.2 (List.mem_map_of_mem ha0),rfl⟩
 have hQ:kT (qG C aH Nu.length):=u.qgok hL (fun c hc a ha=>((co.gok c hc).arc a ha).1) tc;have hQl:(qG C aH Nu.length).Nodes.length=Nu.length:=by simp[qG]
 have hsim:rZ (qG C aH Nu.length) (core N3) (fun v=>(j8 g Nm out v.toNat:Int)) (fun v=>∃p:Nat,v=(p:Int)/\p∈out):=by
  refine⟨?_,?_,?_,?_⟩;rintro v ⟨p,rfl,hp⟩ a ha;obtain⟨x,_,hx,_⟩:=img p hp;obtain⟨a0,ha0,rfl⟩:=(qarc p hp x hx a).1 (tO.1 ha);exact⟨aH a0.to,rfl,o2.clo p hp x hx a0 ha0⟩;rintro v w ⟨p,rfl,hp⟩ ⟨q,rfl,hq⟩ e;simp only[zZ]at e;rw[inj p hp q hq qq0];rintro v ⟨p,rfl,hp⟩;simp only[zZ];exact(imgc p hp).1;rintro v ⟨p,rfl,hp⟩;simp only[zZ];have i1:gS (core N3) (j8 g Nm out p:Int):=⟨by omega,by rw[j7];have:=pil p hp;omega⟩;have i2:gS (qG C aH Nu.length) (p:Int):=⟨by omega,by rw[hQl];have:=o2.lt p hp;omega⟩;have dg:lI (sar (core N3) (j8 g Nm out p:Int)):=RP (co3.gok _ (wB i1).2).dis;have de:lI ((sar (qG C aH Nu.length) (p:Int)).map fun a=>(⟨a.Feat,(j8 g Nm out a.To.toNat:Int)⟩:aR)):=by have:lI (sar (qG C aH Nu.length) (p:Int)):=RP (hQ _ (wB i2).2).dis;unfold lI at*;rw[List.pairwise_map];exact this
  refine iq dg de fun b=>?_;rw[tO,(imgc p hp).2 b,List.mem_map];constructor;rintro⟨a,ha,q,e1,e2,rfl⟩;exact⟨a,tO.2 ha,by rw[e1,zZ]⟩;rintro⟨a,ha,rfl⟩;have ha:=tO.1 ha;obtain⟨x,_,hx,_⟩:=img p hp;obtain⟨a0,ha0,rfl⟩:=(qarc p hp x hx a).1 ha;exact⟨_,ha,aH a0.to,rfl,o2.clo p hp x hx a0 ha0,rfl⟩
 have hrQ:gS (qG C aH Nu.length) (r:Int):=⟨by omega,by rw[hQl];omega⟩;have P8:=(hsim.canon hQ co3.gok (r:=(r:Int)) hrQ ⟨r,rfl,o2.hd⟩ ⟨by simp only[zZ];omega,by rw[j7];simp only[zZ];have:=pil r o2.hd;omega⟩).2;simp only[zZ]at P8;obtain⟨g1,_⟩:=NC hQ hrQ;have lR:∀p∈out,aH p=p/\p<Nu.length/\(p:Int)∈bP (qG C aH Nu.length) (r:Int)/\Rc (qG C aH Nu.length) (r:Int) (p:Int):=o2.ind _ ⟨hrr,hr,by obtain⟨t,ht⟩:=g1.head;rw[ht];simp,Rc.refl _ _⟩ fun p x a ⟨h1,tV,h2,h3⟩ hx ha=>by
  have hm:(⟨a.f,(aH a.to:Int)⟩:aR)∈(nd (qG C aH Nu.length) (p:Int)).Arcs:=by rw[S6 tV h1];simp only[T0];rw[u.ar p x hx h1,List.map_map,List.mem_map];exact⟨a,ha,by simp[VO,gA,rI]⟩
  exact⟨u.rok.idem _ (u.to hx a ha),u.rok.lt _ (u.to hx a ha),g1.clo _ h2 _ hm,h3.snoc hm⟩
 have hord:out.length<=(bP (qG C aH Nu.length) (r:Int)).length:=Ju (R:=fun(v:Int) (p:Nat)=>v=(p:Int)) (fun v x y e1 e2=>qq0) _ out o2.nd fun p hp=>⟨(p:Int),(lR p hp).2.2.1,rfl⟩;have hrch:∀p∈out,Rc (qG C aH Nu.length) (r:Int) (p:Int):=fun p hp=>(lR p hp).2.2.2;refine⟨j8 g Nm out r,N3,(out.filter (dR g Nm)).length,out,j8 g Nm out,?_,⟨co3,ex,fun y hy=>(nds y hy).2.2.2.2.1,hN3,fun y hy=>(nds y hy).2.2.2.2.2,fun y hy=>(nds y hy).1,fun y hy=>(nds y hy).2.2.1,⟨rfl,o2.hd⟩,fun p hp=>⟨o2.lt p hp,pil p hp⟩,imgc,inj,fun p hp h=>?_,fun i h1 h2=>?_,CT,hrch,fun p hp a ha=>?_,P8,hord⟩⟩;obtain⟨x,y,hx,hy,_⟩:=nod r o2.hd;have EB:N3[r]? = some { y with cp:=some (j8 g Nm out r),cpA:=g }:=by rw[q2.old r (aE r o2.hd)];exact p2.old2 r y hy o2.hd
 have e0:OJ g n out N2 Nm.length=some N3:=q1;have hpd:G4 g { y with cp:=some (j8 g Nm out r),cpA:=g }=some (j8 g Nm out r):=by simp[G4]
 rw[Ga,o1,aM,m1,aM,p1,aM];simp only;rw[<-uI,e0,aM,EB,aM,hpd,aM];unfold j8 at h ⊢;rcases hc:dR g Nm p with _|_;simp;rw[hc,if_pos rfl]at h;omega;obtain⟨p,x,d',k1,k2,k3,k4,k5,k6⟩:=new (i-Nu.length) qq0;refine⟨p,k2,?_⟩;have uF:(out.filter (dR g Nm)).idxOf p=i-Nu.length:=by have h3:=(zG.1 k1);obtain⟨h4,h5⟩:=h3;exact z57 (o2.nd.filter _) h4 h5
 rw[j8,k3,if_pos rfl,uF,uI];omega;obtain⟨x,_,hx,_⟩:=img p hp;obtain⟨a0,ha0,rfl⟩:=(qarc p hp x hx a).1 ha;exact⟨aH a0.to,o2.clo p hp x hx a0 ha0,rfl⟩
end
def Sm.core{N N':X PN}(h:Sm N N'):Go.Proofs.core N'=Go.Proofs.core N:=by
 have:N'.map cN=N.map cN:=by apply List.ext_getElem?;intro i;rw[List.getElem?_map,List.getElem?_map];by_cases hi:i<N.length;obtain⟨x,hx⟩:=fE hi;obtain⟨x',h1,h2,h3⟩:=h.st i x hx;rw[hx,h1];simp only[zM,cN,h2,h3];have:=h.len;rw[List.getElem?_eq_none qq0,List.getElem?_eq_none qq0]
 simp only[Go.Proofs.core,this]
variable{N:X PN}
variable{N':X PN}
def Sm.back(h:Sm N N'){x':PN}(hx:x'∈N'):∃x∈N,x'.kind=x.kind/\x'.arcs=x.arcs:=by obtain⟨i,hi⟩:=List.getElem?_of_mem hx;obtain⟨x,h0⟩:=fE (h.lt.1 (oB hi));obtain⟨y,h1,h2,h3⟩:=h.st i x h0;rw[hi]at h1;cases h1;exact⟨x,zX h0,h2,h3⟩
def CO.sm'(c:CO N)(h:Sm N N'):CO N':=⟨by rw[h.core];exact c.gok,fun x hx=>by
 obtain⟨y,h1,h2,h3⟩:=h.back hx;rw[h3];exact c.up y h1,by rw[h.len];exact c.len,fun x hx=>by
 obtain⟨y,h1,h2,h3⟩:=h.back hx;rw[h3];exact c.sm y h1⟩
def oJ(N:X PN):Nat:=(N.map fun x=>x.arcs.length).sum
def X9(N:X PN):tot (N.map Es)=oJ N:=by simp only[tot,oJ,List.map_map];congr 1;exact List.map_congr_left fun x _=>by simp[Es]
def Sm.tot(h:Sm N N'):oJ N'=oJ N:=by
 have:N'.map (fun x=>x.arcs.length)=N.map fun x=>x.arcs.length:=by apply List.ext_getElem?;intro i;rw[List.getElem?_map,List.getElem?_map];by_cases hi:i<N.length;obtain⟨x,hx⟩:=fE hi;obtain⟨x',h1,h2,h3⟩:=h.st i x hx;rw[hx,h1];simp only[zM,h3];have:=h.len;rw[List.getElem?_eq_none qq0,List.getElem?_eq_none qq0]
 rw[oJ,this];rfl
abbrev Ff:=X Int×Int
structure uZ(H:cZ)(ws:X Nat)(P:PP)(fs:X GFS)(v10:X (X Int))(E:X Ff)(T:Nat):Prop where
 has:Has P fs
 hH:P.H=H
 wf:Wf P.N
 gen:1<=P.gen
 old:∀x∈P.N,Old (P.gen+1) x
 kr:∀x∈P.N,0<=x.kind/\x.kind<(ws.length:Int)
 ft:∀x∈P.N,∀a∈x.arcs,0<=a.f/\a.f<1000
 size:P.size=(P.N.length:Int)
 rt:∀r∈P.roots,r<P.N.length
 shr:∀a∈P.roots,∀b∈P.roots,∀x:Nat,Rc (core P.N) a x->Rc (core P.N) b x->∃p,Wk (core P.N) a p x/\Wk (core P.N) b p x
 spn:∀a∈P.roots,∀x:Nat,Rc (core P.N) a x->∃p∈v10,Wk (core P.N) a p x
 arc:∀a∈P.roots,∀x:Nat,Rc (core P.N) a x->∀y∈(nd (core P.N) x).Arcs,∃e∈E,Wk (core P.N) a e.1 x/\y.Feat=e.2
 tot:oJ P.N<=T
section
variable{H:cZ}{ws:X Nat}{P:PP}{fs:X GFS}{v10:X (X Int)}{E:X Ff}{T:Nat}
def uZ.sm(p:uZ H ws P fs v10 E T){Nu:X PN}(h:Sm P.N Nu)(wf:Wf Nu)(hm:∀x∈Nu,Mid (P.gen+1) x):uZ H ws { P with N:=Nu,gen:=P.gen+1 } fs v10 E T:=by have hc:=h.core;have hg:=p.gen;refine⟨⟨p.has.co.sm' h,p.has.len,fun k f hf=>?_⟩,p.hH,wf,by show 1<=P.gen+1;omega,fun x hx=>?_,fun x hx=>?_,fun x hx=>?_,by rw[h.len];exact p.size,fun r hr=>by rw[h.len];exact p.rt r hr,?_,?_,?_,by rw[h.tot];exact p.tot⟩;obtain⟨r,h1,h2,h3⟩:=p.has.at_ k f hf;exact⟨r,h1,by rw[h.len];exact h2,by show cO (core Nu) _=_;rw[hc];exact h3⟩;have m:=hm x hx;have q1:=m.fw;have q2:=m.mt;have q3:=m.mo;have q4:=m.cp;have q5:=m.ch;exact⟨by show _<P.gen+1+1;omega,by show _<P.gen+1+1;omega,by show _<P.gen+1+1;omega,by show _<P.gen+1+1;omega,by show _<P.gen+1+1;omega⟩;obtain⟨y,h1,h2,h3⟩:=h.back hx;rw[h2];exact p.kr y h1;obtain⟨y,h1,h2,h3⟩:=h.back hx;rw[h3];exact p.ft y h1;show ∀a∈P.roots,∀b∈P.roots,∀x:Nat,Rc (core Nu) a x->Rc (core Nu) b x->∃p,Wk (core Nu) a p x/\Wk (core Nu) b p x;rw[hc];exact p.shr;show ∀a∈P.roots,∀x:Nat,Rc (core Nu) a x->∃p∈v10,Wk (core Nu) a p x;rw[hc];exact p.spn;show ∀a∈P.roots,∀x:Nat,Rc (core Nu) a x->∀y∈(nd (core Nu) x).Arcs,∃e∈E,Wk (core Nu) a e.1 x/\y.Feat=e.2;rw[hc];exact p.arc
structure EL(ws:X Nat)(L:X aO)(ra rb:Nat)(aH:Nat->Nat)(Q:GFS):Prop where
 qg:QG ws L aH Q
 gok:kT Q
 clo:o9 L aH
 good:¬ VW ws L aH
 eq:aH ra=aH rb
 low:∀q,o9 L q->q ra=q rb->∀i j,i<L.length->j<L.length->aH i=aH j->q i=q j
def Zz(ws:X Nat)(L:X aO)(ra rb:Nat):Prop:=∀q:Nat->Nat,o9 L q->q ra=q rb->VW ws L q
def z0b(hh:nT H ws)(p:uZ H ws P fs v10 E T)(hT:2*(1+T)<=1000000)(EF:P.gen<=1000000){n:Nat}(hn:3000000<=n){a b ra rb:Nat}(ha:P.roots[a]? = some ra)(hb:P.roots[b]? = some rb):
  (∃Nu,F2 n P (a:Int) (b:Int)=some (none,{ P with N:=Nu,gen:=P.gen+1 })/\uZ H ws { P with N:=Nu,gen:=P.gen+1 } fs v10 E T/\Zz ws (core P.N).Nodes ra rb)\/
  (∃Nu C aH d D,F2 n P (a:Int) (b:Int)=some (some (aH ra),{ P with N:=Nu,gen:=P.gen+1 })/\uZ H ws { P with N:=Nu,gen:=P.gen+1 } fs v10 E T/\Sm P.N Nu/\US ws (P.gen+1) Nu C aH d D/\D+tot C<=1+T/\TC ws Nu.length (core Nu).Nodes [] C aH/\EL ws (core P.N).Nodes ra rb aH (qG C aH Nu.length)):=by
 have LV:=p.rt ra (zX ha);have Bq:=p.rt rb (zX hb);have lU:=(zG.1 ha).1;have zP:=(zG.1 hb).1;have co:=p.has.co;have hg:=p.gen;have hw:IntKind.i64.wrap (P.gen+1)=P.gen+1:=oZ qq0 qq0;have hL:=Ab (ws:=ws) co;have Vd:=X9 P.N;have hTt:=p.tot;obtain⟨ok,Nu,g1,g2⟩:=ob hh (n:=n) qq0 (g:=P.gen+1) (L:=(core P.N).Nodes) n [(ra,rb)] P.N (P.N.map Es) id (fun _=>0) 0 hL (Fq co p.wf p.old p.kr) (fun w hw=>by simp at hw;subst hw;exact⟨LV,Bq⟩) (tc0 _) (by simp;omega) (by simp;omega) (by simp;omega);have e1:F2 n P (a:Int) (b:Int)=a8 (JX P.H (P.gen+1) n n [(ra,rb)] P.N) fun r=>cond (!r.1) (some (none,{ P with N:=r.2,gen:=P.gen+1 })) (a8 (sV r.2 (P.gen+1) n ra) fun q=>some (some q,{ P with N:=r.2,gen:=P.gen+1 })):=by rw[F2,decide_eq_false qq0,zD,decide_eq_false qq0,zD,decide_eq_false qq0,zD,decide_eq_false qq0,zD,cP,ha,aM,cP,hb,aM,hw]
 rw[<-p.hH]at g1;rw[g1,aM]at e1;have pi:=p.sm g2.sm g2.wf g2.mid;have und:∀q:Nat->Nat,q ra=q rb->Q4 P.N.length ([(ra,rb)].map wI) id q:=fun q hq=>⟨fun i j _ _ e=>by rw[show i=j from e],fun z hz=>by simp[wI]at hz;subst hz;simpa using hq⟩;cases ok with
 |false=>refine .inl ⟨Nu,e1,pi,fun q hq he=>g2.no rfl q hq (und q he)⟩|true=>
  obtain⟨C,aH,d,D,k1,k2,k3,k4,k5,k6⟩:=g2.yes rfl;have hl:=g2.sm.len;have Xi:A4 Nu.length ws (core Nu).Nodes:=Ab (co.sm' g2.sm);have Jy:TC ws Nu.length (core Nu).Nodes [] C aH:=by rw[g2.sm.core,hl];exact k3
  have iE:D+tot C<=1+T:=by simp at k2;omega
  simp only[Bool.not_true,zD]at e1;rw[k1.fnd (Kp.refl _) qq0 qq0,aM]at e1;refine .inr ⟨Nu,C,aH,d,D,e1,pi,g2.sm,k1,iE,Jy,?_⟩;have hc:=g2.sm.core;rw[hc]at Xi Jy;exact⟨k1.qg Xi Jy,k1.qgok Xi (fun c hc a ha=>((co.gok c hc).arc a ha).1) Jy,k1.clo Xi Jy,k1.good Xi (fun w hw=>(hh.ok w hw).1) Jy,k5 (ra,rb) qq4,fun q hq he i j hi hj hr=>(k6 q hq (und q he)).r i j (by rw[j7]at hi;exact hi) (by rw[j7]at hj;exact hj) hr⟩
end
variable{N:X PN}
variable{N':X PN}
variable{i:Nat}
def zd(e:Ex N.length N N')(hi:i<N.length):nd (core N') (i:Int)=nd (core N) (i:Int):=by obtain⟨x,hx⟩:=fE hi;obtain⟨x',h1,h2,h3⟩:=e.st i x hi hx;rw[FF hx,FF h1,cN,cN,h2,h3]
variable{v:Int}
variable{w:Int}
variable{p:X Int}
def QH(c:CO N)(e:Ex N.length N N')(h:Wk (core N) v p w):gS (core N) v->Wk (core N') v p w:=by induction h with|nil v=>intro _;exact .nil v| @cons v w a p ha hw ih=>intro hv;have hg:=(c.gok _ (wB hv).2).arc a ha;have h1:=hv.2;rw[j7]at h1;have:=zd e (i:=v.toNat) (by have:=hv.1;omega);rw[show((v.toNat:Nat):Int)=v by have:=hv.1;omega]at this;exact .cons (by rw[this];exact ha) (ih ⟨hg.2.1,hg.2.2⟩)
def GA(c:CO N)(e:Ex N.length N N')(h:Wk (core N') v p w):gS (core N) v->Wk (core N) v p w:=by induction h with|nil v=>intro _;exact .nil v| @cons v w a p ha hw ih=>intro hv;have h1:=hv.2;rw[j7]at h1;have:=zd e (i:=v.toNat) (by have:=hv.1;omega);rw[show((v.toNat:Nat):Int)=v by have:=hv.1;omega]at this;rw[this]at ha;have hg:=(c.gok _ (wB hv).2).arc a ha;exact .cons ha (ih ⟨hg.2.1,hg.2.2⟩)
section
variable{ws:X Nat}{g:Int}{Nu:X PN}{Q:GFS}{r:Nat}{N3:X PN}{c k:Nat}{out:X Nat}{Z:Nat->Nat}
def ql.to(h:ql ws g Nu Q r N3 c k out Z)(hw:Wk Q v p w):∀{v0 w0:Nat},v=(v0:Int)->v0∈out->(∀x∈out,∀a∈(nd Q (x:Int)).Arcs,∃q∈out,a.To=(q:Int))->w=(w0:Int)->Wk (core N3) (Z v0:Int) p (Z w0:Int):=by induction hw with|nil v=>intro v0 w0 e1 _ _ e2;rw[show w0=v0 by omega];exact .nil _| @cons v w a p ha hw ih=>intro v0 w0 e1 hv iS e2;subst e1;obtain⟨q,hq,e⟩:=iS v0 hv a ha;have hm:(⟨a.Feat,(Z q:Int)⟩:aR)∈(nd (core N3) (Z v0:Int)).Arcs:=((h.img v0 hv).2 _).2 ⟨a,ha,q,e,hq,rfl⟩;exact Wk.cons (a:=⟨a.Feat,(Z q:Int)⟩) hm (ih e hq iS e2)
def ql.from(h:ql ws g Nu Q r N3 c k out Z)(hw:Wk (core N3) v p w):∀{v0:Nat},v=(Z v0:Int)->v0∈out->∃w0∈out,w=(Z w0:Int)/\Wk Q (v0:Int) p (w0:Int):=by induction hw with|nil v=>intro v0 e1 hv;exact⟨v0,hv,e1,.nil _⟩| @cons v w a p ha hw ih=>intro v0 e1 hv;subst e1;obtain⟨b,hb,q,e,hq,e2⟩:=((h.img v0 hv).2 a).1 ha;subst e2;obtain⟨w0,h1,h2,h3⟩:=ih rfl hq;exact⟨w0,h1,h2,Wk.cons (a:=b) hb (by rw[e];exact h3)⟩
end
section
variable{ws:X Nat}{N:X PN}{ra rb:Nat}{aH:Nat->Nat}{Q:GFS}
def RR(N:X PN)(ra rb i:Nat):Prop:=Rc (core N) (ra:Int) (i:Int)\/Rc (core N) (rb:Int) (i:Int)
def RR.arc(h:RR N ra rb i){x:PN}(hx:N[i]? = some x){a:aR}(ha:a∈(cN x).Arcs)(h0:0<=a.To):RR N ra rb a.To.toNat:=by
 have e:((a.To.toNat:Nat):Int)=a.To:=by omega
 rw[<-FF hx]at ha;rcases h with h |h;left;rw[e];exact h.snoc ha;right;rw[e];exact h.snoc ha
def EL.cls(U:EL ws (core N).Nodes ra rb aH Q)(c:CO N){j:Nat}(hi:i<N.length)(hj:j<N.length)(h:aH i=aH j)(hr:RR N ra rb i):RR N ra rb j:=by
 classical
 have hq:o9 (core N).Nodes (fun i=>if RR N ra rb i then N.length else i):=fun i j x y a b hi hj e ha hb hf=>by obtain⟨x0,qK,rfl⟩:=Hc hi;obtain⟨y0,LR,rfl⟩:=Hc hj;have h1:=oB qK;have h2:=oB LR;have a0:=((c.gok _ (zX hi)).arc a ha).2.1;have b0:=((c.gok _ (zX hj)).arc b hb).2.1;by_cases r1:RR N ra rb i;by_cases r2:RR N ra rb j;show(if _ then _ else _)=if _ then _ else _;rw[if_pos (r1.arc qK ha a0),if_pos (r2.arc LR hb b0)];have e:(if RR N ra rb i then N.length else i)=if RR N ra rb j then N.length else j:=e;rw[if_pos r1,if_neg r2]at e;omega;by_cases r2:RR N ra rb j;have e:(if RR N ra rb i then N.length else i)=if RR N ra rb j then N.length else j:=e;rw[if_neg r1,if_pos r2]at e;omega;have e:(if RR N ra rb i then N.length else i)=if RR N ra rb j then N.length else j:=e;rw[if_neg r1,if_neg r2]at e;subst e;rw[qK]at LR;cases LR;have:=(c.gok _ (zX hi)).dis.eq a ha b hb hf;rw[this]
 have:=U.low _ hq (by show(if _ then _ else _)=if _ then _ else _;rw[if_pos (show RR N ra rb ra from Or.inl (Rc.refl _ _)),if_pos (show RR N ra rb rb from Or.inr (Rc.refl _ _))]) i j (by rw[j7];exact hi) (by rw[j7];exact hj) h;have this:(if RR N ra rb i then N.length else i)=if RR N ra rb j then N.length else j:=this;rw[if_pos hr]at this;by_cases r2:RR N ra rb j;exact r2;rw[if_neg r2]at this;omega
def EL.back(U:EL ws (core N).Nodes ra rb aH Q)(c:CO N)(hw:Wk Q v p w):(∃j,j<N.length/\v=(aH j:Int)/\RR N ra rb j)->∃j,j<N.length/\w=(aH j:Int)/\RR N ra rb j:=by
 induction hw with
 |nil v=>exact id| @cons v w a p ha hw ih=>
  rintro⟨j,hj,rfl,hr⟩;have hl:=j7 N;have rt:=U.qg.rt j qq0;have hn:∃x,Q.Nodes[aH j]? = some x:=fE (by rw[U.qg.len];exact rt.1);obtain⟨x,hx⟩:=hn;have e:nd Q (aH j:Int)=x:=by simp[nd,hx]
  rw[e]at ha;obtain⟨j2,y,a0,q1,q2,q3,q4,q5⟩:=U.qg.snd _ x a hx rt.2 ha;obtain⟨y0,LR,rfl⟩:=Hc q1;have hj2:=oB LR;have hg:=(c.gok _ (zX q1)).arc a0 q3;have r2:=U.cls c hj hj2 q2.symm hr;exact ih ⟨a0.To.toNat,by omega,q5,r2.arc LR q3 hg.2.1⟩
end
def ZM:X (X Int)->Nat->X (Nat×Int)
 |[],_=>[]|l::M,s=>l.map (fun x=>(s,x))++ZM M (s+1)
def z1l:∀(M:X (X Int))(s:Nat),(ZM M s).length=(M.map List.length).sum
 |[],_=>rfl|l::M,s=>by simp[ZM,z1l M]
def nv:∀{M:X (X Int)}{s:Nat}{x:Nat×Int},x∈ZM M s->∃j l,M[j]? = some l/\x.1=s+j/\x.2∈l
 |[],_,_,h=>by cases h
 |l::M,s,x,h=>by rcases yD.1 h with h |h;obtain⟨y,hy,rfl⟩:=List.mem_map.1 h;exact⟨0,l,rfl,rfl,hy⟩;obtain⟨j,l',h1,h2,h3⟩:=nv h;exact⟨j+1,l',by simpa using h1,by omega,h3⟩
def z87:∀{M:X (X Int)}{s:Nat},(∀l∈M,l.Nodup)->(ZM M s).Nodup
 |[],_,_=>List.nodup_nil|l::M,s,h=>by rw[ZM,List.nodup_append];refine⟨?_,z87 fun q hq=>h q (by simp[hq]),fun a ha b hb e=>?_⟩;have:=h l qq4;unfold List.Nodup at*;rw[List.pairwise_map];exact this.imp fun q e=>q (Prod.mk.inj e).2;obtain⟨x,_,rfl⟩:=List.mem_map.1 ha;obtain⟨j,_,_,h2,_⟩:=nv hb;rw[<-e]at h2;have h2:s=s+1+j:=h2;omega
def z37(N:X PN)(k:Nat):oJ N=oJ (N.take k)+oJ (N.drop k):=by rw[oJ,oJ,oJ,<-List.sum_append,<-List.map_append,List.take_append_drop]
def z6m(N:X PN)(s:Nat):oJ N=(ZM (N.map fun x=>x.arcs.map eC.f) s).length:=by rw[z1l,oJ,List.map_map];congr 1;exact List.map_congr_left fun x _=>qq4
structure JN(ws:X Nat)(L:X aO)(ra rb:Nat)(res:V GFS):Prop where
 no:res=none->Zz ws L ra rb
 yes:∀f,res=some f->∃aH Q,EL ws L ra rb aH Q/\f=cO Q ((aH ra:Nat):Int)
section
variable{H:cZ}{ws:X Nat}{P:PP}{fs:X GFS}{v10:X (X Int)}{E:X Ff}{T:Nat}
def z6k(hh:nT H ws)(p:uZ H ws P fs v10 E T)(hT:2*(1+T)<=1000000)(EF:P.gen<=1000000){n:Nat}(hn:3000000<=n){a b ra rb:Nat}(ha:P.roots[a]? = some ra)(hb:P.roots[b]? = some rb):
  ∃res P',AH n P (a:Int) (b:Int)=some (res.isSome,P')/\JN ws (core P.N).Nodes ra rb res/\uZ H ws P' fs v10 E T/\P'.gen=P.gen+1/\P'.N.length=P.N.length/\P'.roots=P.roots/\core P'.N=core P.N:=by rcases z0b hh p hT EF hn ha hb with⟨Nu,g1,g2,g3⟩|⟨Nu,C,aH,d,D,g1,g2,g3,g4,g5,g6,g7⟩;have w:=Ov g1 p.wf;exact⟨none,_,by rw[AH,g1];rfl,⟨fun _=>g3,nofun⟩,g2,rfl,w.1.len,rfl,w.1.core⟩;exact⟨some (cO (qG C aH Nu.length) (aH ra:Int)),_,by rw[AH,g1];rfl,⟨nofun,fun f e=>⟨aH,_,g7,by cases e;rfl⟩⟩,g2,rfl,g3.len,rfl,g3.core⟩
def z3d(hh:nT H ws)(p:uZ H ws P fs v10 E T)(hT:2*(1+T)<=1000000)(EF:P.gen<=1000000)(hN:2*P.N.length<=1000000)(hR:P.roots.length<=1000000){n:Nat}(hn:3000000<=n){a b ra rb:Nat}(ha:P.roots[a]? = some ra)(hb:P.roots[b]? = some rb):
  ∃res P',vA n P (a:Int) (b:Int)=some (((if res.isSome then(P.roots.length:Int)else 0),res.isSome),P')/\JN ws (core P.N).Nodes ra rb res/\uZ H ws P' (fs++res.toList) v10 E (T+E.length)/\P'.gen=P.gen+1/\P.N.length<=P'.N.length/\(res=none->P'.N.length=P.N.length)/\(∀f,res=some f->P'.N.length<=P.N.length+f.Nodes.length):=by
 rcases z0b hh p hT EF hn ha hb with⟨Nu,g1,g2,g3⟩|⟨Nu,C,aH,d,D,g1,g2,g3,g4,g5,g6,U⟩;have w:=Ov g1 p.wf;have hl:Nu.length=P.N.length:=w.1.len;refine⟨none,_,by rw[vA,g1];rfl,⟨fun _=>g3,nofun⟩,?_,rfl,Nat.le_of_eq hl.symm,fun _=>hl,nofun⟩;simp only[Option.toList_none,List.append_nil];exact⟨g2.has,g2.hH,g2.wf,g2.gen,g2.old,g2.kr,g2.ft,g2.size,g2.rt,g2.shr,g2.spn,g2.arc,Nat.le_trans g2.tot (Nat.le_add_right _ _)⟩;have LV:=p.rt ra (zX ha);have Bq:=p.rt rb (zX hb);have hl:=g3.len;have hc:=g3.core;have hg:=p.gen;have co:CO Nu:=g2.has.co;have eY:P.size=(P.N.length:Int):=p.size;obtain⟨c,N3,k,out,Z,k1,K⟩:=Zi (n:=n) g4 co g6 ⟨by omega,by omega⟩ qq0 qq0 g2.kr g2.ft qq0 (s:=P.size) qq0 qq0 (r:=aH ra) (g4.rok.lt _ qq0) (g4.rok.idem _ qq0);have Le:=p.has.co;have rP:Ex Nu.length Nu N3:=K.ex;have hL:∀(j:Nat)(c:aO)(a:aR),(core P.N).Nodes[j]? = some c->a∈c.Arcs->0<=a.To/\a.To<((core P.N).Nodes.length:Int):=fun j c a hj ha=>((Le.gok _ (zX hj)).arc a ha).2
 have KF:∀{v:Nat}{q:X Int}{w:Int},v<P.N.length->Wk (core P.N) v q w->Wk (core N3) v q w:=fun{v q w} hv h=>QH co rP (by rw[hc];exact h) ⟨by omega,by rw[j7];omega⟩;have EV:∀{v:Nat}{q:X Int}{w:Int},v<P.N.length->Wk (core N3) v q w->Wk (core P.N) v q w:=fun{v q w} hv h=>by rw[<-hc];exact GA co rP h ⟨by omega,by rw[j7];omega⟩
 have Fp:∀{v x:Nat}{q:X Int},v<P.N.length->Wk (core P.N) v q x->x<P.N.length:=fun{v x q} hv h=>by have:=(h.ing Le.gok ⟨by omega,by rw[j7];omega⟩).2;rw[j7]at this;omega
 have qn:∀i,i<P.N.length->aH (aH i)=aH i:=fun i hi=>(U.qg.rt i (by rw[j7];exact hi)).2;have hr0:=U.eq;have org:∀x∈out,aH x=x/\x<P.N.length/\∃j,j<P.N.length/\aH j=x/\RR P.N ra rb j:=fun x hx=>by
  obtain⟨q,hq⟩:=K.rch x hx;obtain⟨j,h1,h2,h3⟩:=U.back Le hq ⟨ra,LV,rfl,.inl (Rc.refl _ _)⟩;have h2:x=aH j:=by omega
  have:=(K.lt x hx).1;exact⟨by rw[h2];exact qn j h1,by omega,j,h1,h2.symm,h3⟩
 have gu:∀{v:Nat}{q:X Int}{j x:Nat},(v=ra\/v=rb)->Wk (core P.N) v q j->aH j=x->x∈out->Wk (core N3) c q (Z x:Int):=fun{v q j x} hv hw hj hx=>by have h1:=U.qg.wk hL (v:=(v:Int)) (w:=(j:Int)) hw (by rw[j7];rcases hv with rfl |rfl<;>omega);simp only[zZ,hj]at h1;have h2:aH v=aH ra:=hv.elim (fun h=>by rw[h]) (fun h=>by rw[h];exact hr0.symm);rw[h2]at h1;have:=K.to h1 rfl K.rt.2 K.cl rfl;rw[<-K.rt.1]at this;exact this
 have rootOf:∀{v:Nat},(v=ra\/v=rb)->v∈P.roots/\v<P.N.length:=fun{v} hv=>by rcases hv with rfl |rfl;exact⟨zX ha,LV⟩;exact⟨zX hb,Bq⟩
 have rr:∀{j:Nat},RR P.N ra rb j->∃v,(v=ra\/v=rb)/\Rc (core P.N) (v:Int) (j:Int):=fun{j} h=>by rcases h with h |h;exact⟨ra,.inl rfl,h⟩;exact⟨rb,.inr rfl,h⟩
 have frc:∀x:Nat,Rc (core N3) (c:Int) (x:Int)->∃y∈out,x=Z y:=fun x ⟨q,hq⟩=>by obtain⟨w0,h1,h2,_⟩:=K.from hq (v0:=aH ra) (by rw[K.rt.1]) K.rt.2;exact⟨w0,h1,by omega⟩
 have cN3:c<N3.length:=by rw[K.rt.1];exact(K.lt _ K.rt.2).2
 have hspn:∀x:Nat,Rc (core N3) (c:Int) (x:Int)->∃p∈v10,Wk (core N3) (c:Int) p (x:Int):=fun x hx=>by obtain⟨y,hy,rfl⟩:=frc x hx;obtain⟨_,_,j,h1,h2,h3⟩:=org y hy;obtain⟨v,hv,Va⟩:=rr h3;obtain⟨z,hz,hw⟩:=p.spn v (rootOf hv).1 j Va;exact⟨z,hz,gu hv hw h2 hy⟩
 have Xf:∀x:Nat,Rc (core N3) (c:Int) (x:Int)->∀y∈(nd (core N3) (x:Int)).Arcs,∃e∈E,Wk (core N3) (c:Int) e.1 (x:Int)/\y.Feat=e.2:=fun x hx y hy=>by
  obtain⟨x0,qK,rfl⟩:=frc x hx;obtain⟨h0,h0',j,h1,h2,h3⟩:=org x0 qK;obtain⟨b,hb,q,e1,hq,rfl⟩:=((K.img x0 qK).2 y).1 hy;obtain⟨z,hz⟩:∃z,(qG C aH Nu.length).Nodes[x0]? = some z:=fE (by rw[U.qg.len,j7];exact h0');have e2:nd (qG C aH Nu.length) (x0:Int)=z:=by simp[nd,hz]
  rw[e2]at hb;obtain⟨j2,y2,a0,q1,q2,q3,q4,q5⟩:=U.qg.snd _ z b hz h0 hb;obtain⟨y0,LR,rfl⟩:=Hc q1;have r2:=U.cls Le h1 (oB LR) (by rw[h2,q2]) h3;obtain⟨v,hv,Va⟩:=rr r2;obtain⟨e,he,hw,hf⟩:=p.arc v (rootOf hv).1 j2 Va a0 (by rw[FF LR];exact q3);exact⟨e,he,gu hv hw q2 qK,by show b.Feat=_;rw[q4,hf]⟩
 have Vh:∀b'∈P.roots,∀x:Nat,Rc (core N3) (c:Int) (x:Int)->Rc (core N3) (b':Int) (x:Int)->∃p,Wk (core N3) (c:Int) p (x:Int)/\Wk (core N3) (b':Int) p (x:Int):=fun b' cK x hx ⟨q,hq⟩=>by
  have zP:=p.rt b' cK;have hq:=EV zP hq;have LU:=Fp zP hq;obtain⟨y,hy,e⟩:=frc x hx;have pT:=K.low y hy qq0;obtain⟨h0,h0',j,h1,h2,h3⟩:=org y hy;have r2:=U.cls Le h1 h0' (by rw[h2,h0]) h3;obtain⟨v,hv,Va⟩:=rr r2;have exy:x=y:=by omega
  subst exy;obtain⟨q2,w1,w2⟩:=p.shr v (rootOf hv).1 b' cK x Va ⟨q,hq⟩;have:=gu hv w1 h0 hy;rw[pT]at this;exact⟨q2,this,KF zP w2⟩
 have P8:cO (core N3) (c:Int)=cO (qG C aH Nu.length) (aH ra:Int):=K.can;have BC:out.length<=(cO (qG C aH Nu.length) (aH ra:Int)).Nodes.length:=by have:=K.ord;simp only[cO,yA];exact this
 have hk:=K.k;have hlen3:=K.len;refine⟨some (cO (qG C aH Nu.length) (aH ra:Int)),⟨P.H,N3,P.roots++[c],P.size+(k:Int),P.gen+1⟩,?_,⟨nofun,fun f e=>⟨aH,_,U,by cases e;rfl⟩⟩,?_,rfl,by show P.N.length<=N3.length;omega,nofun,fun f e=>by cases e;show N3.length<=_;omega⟩;rw[vA,g1,aM];simp only;rw[k1,aM,aF,if_pos hR];rfl;have Cs:Ex P.N.length P.N N3:=⟨by omega,fun i x hi hx=>by obtain⟨x',h1,h2,h3⟩:=g3.st i x hx;obtain⟨x2,h4,h5,h6⟩:=rP.st i x' qq0 h1;exact⟨x2,h4,h5.trans h2,h6.trans h3⟩⟩;refine⟨⟨K.co,by simp[p.has.len],fun i f hf=>?_⟩,p.hH,K.wf,by show 1<=P.gen+1;omega,K.old,K.kr,K.ft,by show P.size+(k:Int)=(N3.length:Int);omega,fun r hr=>?_,?_,?_,?_,?_⟩;by_cases hi:i<fs.length;rw[List.getElem?_append_left hi]at hf;obtain⟨r,h1,h2,h3⟩:=p.has.at_ i f hf;exact⟨r,by show(P.roots++[c])[i]? = _;rw[List.getElem?_append_left (by rw[p.has.len];exact hi)];exact h1,by show r<N3.length;omega,by rw[<-h3];exact qqq Le K.co Cs h2⟩;have hi2:=(zG.1 hf).1;simp at hi2;have:i=fs.length:=by omega
 subst this;simp at hf;subst hf;exact⟨c,by show(P.roots++[c])[_]? = _;rw[<-p.has.len];simp,cN3,P8⟩;show r<N3.length;rcases yD.1 hr with hr |hr;have:=p.rt r hr;omega;simp at hr;subst hr;exact cN3;intro a' mG b' cK x hx hy;have mG:a'∈P.roots++[c]:=mG;have cK:b'∈P.roots++[c]:=cK;rcases yD.1 mG with ha1 |ha1<;>rcases yD.1 cK with hb1 |hb1;obtain⟨q1,FM⟩:=hx;obtain⟨q2,rJ⟩:=hy;obtain⟨q,w1,w2⟩:=p.shr a' ha1 b' hb1 x ⟨q1,EV (p.rt _ ha1) FM⟩ ⟨q2,EV (p.rt _ hb1) rJ⟩;exact⟨q,KF (p.rt _ ha1) w1,KF (p.rt _ hb1) w2⟩;simp at hb1;subst hb1;obtain⟨q,w1,w2⟩:=Vh a' ha1 x hy hx;exact⟨q,w2,w1⟩;simp at ha1;subst ha1;exact Vh b' hb1 x hx hy;simp at ha1 hb1;subst ha1;subst hb1;obtain⟨q,hq⟩:=hx;exact⟨q,hq,hq⟩;intro a' mG x hx;have mG:a'∈P.roots++[c]:=mG;rcases yD.1 mG with ha1 |ha1;obtain⟨q1,FM⟩:=hx;obtain⟨z,hz,w⟩:=p.spn a' ha1 x ⟨q1,EV (p.rt _ ha1) FM⟩;exact⟨z,hz,KF (p.rt _ ha1) w⟩;simp at ha1;subst ha1;exact hspn x hx;intro a' mG x hx y hy;have mG:a'∈P.roots++[c]:=mG;rcases yD.1 mG with ha1 |ha1;obtain⟨q1,FM⟩:=hx;have FM:=EV (p.rt _ ha1) FM;have hy:y∈(nd (core N3) (x:Int)).Arcs:=hy;rw[zd Cs (Fp (p.rt _ ha1) FM)]at hy;obtain⟨e,he,w,hf⟩:=p.arc a' ha1 x ⟨q1,FM⟩ y hy;exact⟨e,he,KF (p.rt _ ha1) w,hf⟩;simp at ha1;subst ha1;exact Xf x hx y hy;show oJ N3<=T+E.length;have h1:oJ (N3.take P.N.length)=oJ P.N:=by
  have:(N3.take P.N.length).map (fun x=>x.arcs.length)=P.N.map fun x=>x.arcs.length:=by apply List.ext_getElem?;intro i;rw[List.getElem?_map,List.getElem?_map,List.getElem?_take];by_cases hi:i<P.N.length;obtain⟨x,hx⟩:=fE hi;obtain⟨x',h1,h2,h3⟩:=Cs.st i x hi hx;rw[if_pos hi,hx,h1];simp only[zM,h3];rw[if_neg hi,List.getElem?_eq_none qq0]
  rw[oJ,this];rfl
 have h2:oJ (N3.drop P.N.length)<=E.length:=by
  rw[z6m _ P.N.length];have TR:∀(j:Nat)(x:PN),(N3.drop P.N.length)[j]? = some x->N3[P.N.length+j]? = some x:=fun j x h=>by rw[List.getElem?_drop]at h;exact h
  refine Ju (R:=fun(e:Ff) (z:Nat×Int)=>Wk (core N3) (c:Int) e.1 (z.1:Int)/\z.2=e.2) (fun e x y h1 h2=>?_) E _ (z87 fun l hl=>?_) fun z hz=>?_;have:=Wk.det K.co.gok h1.1 ⟨by omega,by rw[j7];omega⟩ h2.1;exact Prod.ext qq0 (h1.2.trans h2.2.symm);obtain⟨x,hx,rfl⟩:=List.mem_map.1 hl;obtain⟨j,hj⟩:=List.getElem?_of_mem hx;have:=K.co.up' x (zX (TR j x hj));unfold List.Nodup;rw[List.pairwise_map];exact this.imp fun{a b} h e=>by omega
  obtain⟨j,l,q1,q2,q3⟩:=nv hz;rw[List.getElem?_map]at q1;rcases hx:(N3.drop P.N.length)[j]? with _|x;rw[hx]at q1;cases q1;rw[hx]at q1;cases q1;have hx3:=TR j x hx;obtain⟨a,ha,e⟩:=List.mem_map.1 q3;obtain⟨y,hy,hy2⟩:=K.new (P.N.length+j) qq0 (oB hx3);obtain⟨_,_,i,i1,i2,i3⟩:=org y hy;obtain⟨v,hv,⟨q,hvq⟩⟩:=rr i3;have hw:=gu hv hvq i2 hy;rw[hy2]at hw;obtain⟨e',zE,w,hf⟩:=Xf (P.N.length+j) ⟨q,hw⟩ (gA a) (by rw[FF hx3];exact List.mem_map_of_mem ha);exact⟨e',zE,by rw[q2];exact w,by rw[<-hf,<-e];rfl⟩
 have h3:=z37 N3 P.N.length;have h4:=p.tot;omega
end
def uZ.new{H:cZ}{ws:X Nat}:uZ H ws (uC H) [] [] [] 0:=by refine⟨Has.new H,rfl,nofun,Int.le_refl _,nofun,nofun,nofun,rfl,nofun,nofun,nofun,nofun,zF _⟩
def qw6(f:GFS){K:Nat}(hK:∀x∈f.Nodes,x.Arcs.length<=K):∀m,m<=f.Nodes.length->∃(v10:X (X Int))(E:X Ff),v10.length<=m/\E.length<=K*m/\∀i:Nat,i<m->Rc f 0 (i:Int)->(∃z∈v10,Wk f 0 z (i:Int))/\∀y∈(nd f (i:Int)).Arcs,∃e∈E,Wk f 0 e.1 (i:Int)/\y.Feat=e.2
 |0,_=>⟨[],[],zF _,Nat.zero_le _,fun i hi=>qq0⟩|m+1,hm=>by
  obtain⟨v10,E,h1,h2,h3⟩:=qw6 f hK m qq0;by_cases hr:Rc f 0 (m:Int);obtain⟨z,hz⟩:=hr;obtain⟨x,hx⟩:=fE (l:=f.Nodes) (i:=m) qq0;have e:nd f (m:Int)=x:=by simp[nd,hx]
  have LU:=hK x (zX hx);refine⟨z::v10,x.Arcs.map (fun a=>(z,a.Feat))++E,by simp;omega,by simp[Nat.mul_succ];omega,fun i hi nX=>?_⟩;rcases Nat.lt_succ_iff_lt_or_eq.1 hi with hi |rfl;obtain⟨⟨z',k1,k2⟩,k3⟩:=h3 i hi nX;exact⟨⟨z',by simp[k1],k2⟩,fun y hy=>by obtain⟨e',e1,e2⟩:=k3 y hy;exact⟨e',List.mem_append_right _ e1,e2⟩⟩;exact⟨⟨z,by simp,hz⟩,fun y hy=>by rw[e]at hy;exact⟨(z,y.Feat),List.mem_append_left _ (List.mem_map.2 ⟨y,hy,rfl⟩),hz,rfl⟩⟩;refine⟨v10,E,by omega,by rw[Nat.mul_succ];omega,fun i hi nX=>?_⟩;rcases Nat.lt_succ_iff_lt_or_eq.1 hi with hi |rfl;exact h3 i hi nX;exact absurd nX hr
section
variable{N:X PN}{f:GFS}
def ah(hg:kT f){i:Nat}(hi:i<f.Nodes.length):nd (core (N++f.Nodes.map (mW N.length))) ((N.length+i:Nat):Int)=⟨(nd f (i:Int)).Typex,(nd f (i:Int)).Arcs.map (EX N.length)⟩:=by
 obtain⟨x,hx⟩:=fE hi;have h1:(N++f.Nodes.map (mW N.length))[N.length+i]? = some (mW N.length x):=by rw[List.getElem?_append_right qq0,Nat.add_sub_cancel_left,List.getElem?_map,hx];rfl
 rw[FF h1,cN,jk fun a ha=>((hg x (zX hx)).arc a ha).2.1];simp[nd,hx,mW,gO]
def W5(hg:kT f){v w:Int}{p:X Int}(h:Wk f v p w):gS f v->Wk (core (N++f.Nodes.map (mW N.length))) (v+(N.length:Int)) p (w+(N.length:Int)):=by induction h with|nil v=>intro _;exact .nil _| @cons v w a p ha hw ih=>intro hv;have h1:=(hg _ (wB hv).2).arc a ha;have h2:=hv.1;have h3:=hv.2;have e:=ah (N:=N) hg (i:=v.toNat) qq0;rw[show((N.length+v.toNat:Nat):Int)=v+(N.length:Int) by omega,show((v.toNat:Nat):Int)=v by omega]at e;exact Wk.cons (a:=EX N.length a) (by rw[e];exact List.mem_map_of_mem ha) (ih ⟨h1.2.1,h1.2.2⟩)
def MN(hg:kT f){v w:Int}{p:X Int}(h:Wk (core (N++f.Nodes.map (mW N.length))) v p w):∀{u:Int},v=u+(N.length:Int)->gS f u->∃u',w=u'+(N.length:Int)/\gS f u'/\Wk f u p u':=by induction h with|nil v=>intro u e hu;exact⟨u,e,hu,.nil _⟩| @cons v w a p ha hw ih=>intro u e hu;subst e;have h2:=hu.1;have h3:=hu.2;have e:=ah (N:=N) hg (i:=u.toNat) qq0;rw[show((N.length+u.toNat:Nat):Int)=u+(N.length:Int) by omega,show((u.toNat:Nat):Int)=u by omega]at e;rw[e]at ha;obtain⟨b,hb,rfl⟩:=List.mem_map.1 ha;have h1:=(hg _ (wB hu).2).arc b hb;obtain⟨u',k1,k2,k3⟩:=ih (u:=b.To) rfl ⟨h1.2.1,h1.2.2⟩;exact⟨u',k1,k2,Wk.cons (a:=b) hb k3⟩
end
def z6l(a b:X PN):oJ (a++b)=oJ a+oJ b:=by simp[oJ]
def z38{K:Nat}:∀{M:X PN},(∀x∈M,x.arcs.length<=K)->oJ M<=K*M.length
 |[],_=>by simp[oJ]
 |x::M,h=>by have h1:=h x qq4;have h2:=z38 (M:=M) fun y hy=>h y (by simp[hy]);simp only[oJ,zQ,List.sum_cons,zO,Nat.mul_add,Nat.mul_one]at h2 ⊢;omega
def za9{H:cZ}{ws:X Nat}{P:PP}{fs:X GFS}{v10:X (X Int)}{E:X Ff}{T:Nat}(hh:nT H ws)(p:uZ H ws P fs v10 E T){f:GFS}(hf:KB H f)(hN:P.N.length+f.Nodes.length<=1000000)(hR:P.roots.length<=1000000):
  ∃P' Z' E',yE P f=some ((P.roots.length:Int),P')/\uZ H ws P' (fs++[f]) Z' E' (T+12*f.Nodes.length)/\Z'.length<=v10.length+f.Nodes.length/\E'.length<=E.length+12*f.Nodes.length/\P'.gen=P.gen/\P'.N.length=P.N.length+f.Nodes.length:=by
 have hh1:=hh.tl;have hh2:=hh.fl;have hg:=hf.gok;have co:=p.has.co;have hs:=hf.sm;have EF:=p.gen;have eY:=p.size;obtain⟨P',q1,q2,q3,q4,q5⟩:=p.has.put hf hN hR;have hP:=z1b hf.sm qq3 hf.ne hf.gok hR;rw[hP]at q1;cases q1;have co':CO (P.N++f.Nodes.map (mW P.N.length)):=q2.co;have rP:=z88 P.N f;obtain⟨Zf,Ef,z1,z2,z3⟩:=qw6 f hs.arcs f.Nodes.length (zF _);have KF:∀{v:Nat}{q:X Int}{w:Int},v<P.N.length->Wk (core P.N) v q w->Wk (core (P.N++f.Nodes.map (mW P.N.length))) v q w:=fun{v q w} hv h=>QH co rP h ⟨by omega,by rw[j7];omega⟩;have EV:∀{v:Nat}{q:X Int}{w:Int},v<P.N.length->Wk (core (P.N++f.Nodes.map (mW P.N.length))) v q w->Wk (core P.N) v q w:=fun{v q w} hv h=>GA co rP h ⟨by omega,by rw[j7];omega⟩;have Fp:∀{v x:Nat}{q:X Int},v<P.N.length->Wk (core P.N) v q x->x<P.N.length:=fun{v x q} hv h=>by have:=(h.ing co.gok ⟨by omega,by rw[j7];omega⟩).2;rw[j7]at this;omega
 have i0:gS f 0:=⟨Int.le_refl _,by have:=hf.ne;omega⟩;have nw:∀{x:Nat}{q:X Int},Wk (core (P.N++f.Nodes.map (mW P.N.length))) (P.N.length:Int) q x->∃i:Nat,x=P.N.length+i/\i<f.Nodes.length/\Wk f 0 q (i:Int):=fun{x q} h=>by obtain⟨u,h1,h2,h3⟩:=MN hg h (u:=0) qq0 i0;have a1:=h2.1;have a2:=h2.2;exact⟨u.toNat,by omega,by omega,by rw[show((u.toNat:Nat):Int)=u by omega];exact h3⟩
 have nu:∀{i:Nat}{q:X Int},Wk f 0 q (i:Int)->Wk (core (P.N++f.Nodes.map (mW P.N.length))) (P.N.length:Int) q ((P.N.length+i:Nat):Int):=fun{i q} h=>by have:=W5 (N:=P.N) hg h i0;rw[show(0:Int)+(P.N.length:Int)=(P.N.length:Int) by omega,show(i:Int)+(P.N.length:Int)=((P.N.length+i:Nat):Int) by omega]at this;exact this
 have mem:∀x∈P.N++f.Nodes.map (mW P.N.length),x∈P.N\/∃y∈f.Nodes,x=mW P.N.length y:=fun x hx=>by rcases yD.1 hx with hx |hx;exact .inl hx;obtain⟨y,hy,e⟩:=List.mem_map.1 hx;exact .inr ⟨y,hy,e.symm⟩
 have Vg:IntKind.i64.wrap (P.size+f.Nodes.length)=P.size+f.Nodes.length:=oZ qq0 qq0;refine⟨_,v10++Zf,E++Ef,hP,⟨q2,p.hH,(oc hP p.wf p.rt).1,EF,fun x hx=>?_,fun x hx=>?_,fun x hx=>?_,?_,(oc hP p.wf p.rt).2.1,?_,?_,?_,?_⟩,by simp;omega,by simp;omega,rfl,by simp⟩;rcases mem x hx with hx |⟨y,hy,rfl⟩;exact p.old x hx;exact⟨by show(0:Int)<P.gen+1;omega,by show(0:Int)<P.gen+1;omega,by show(0:Int)<P.gen+1;omega,by show(0:Int)<P.gen+1;omega,by show(0:Int)<P.gen+1;omega⟩;rcases mem x hx with hx |⟨y,hy,rfl⟩;exact p.kr x hx;have:=(hf.nok y hy).1;show 0<=y.Typex/\y.Typex<(ws.length:Int);omega;rcases mem x hx with hx |⟨y,hy,rfl⟩;exact p.ft x hx;intro a ha;obtain⟨b,hb,rfl⟩:=List.mem_map.1 (show a∈y.Arcs.map (Tv P.N.length)from ha);have:=(hf.nok y hy).2.ok b hb;show 0<=b.Feat/\b.Feat<1000;omega;show IntKind.i64.wrap (P.size+f.Nodes.length)=_;rw[Vg,zU,yA];omega;intro a ha b hb x hx hy;have ha:a∈P.roots++[P.N.length]:=ha;have hb:b∈P.roots++[P.N.length]:=hb;obtain⟨s1,w1⟩:=hx;obtain⟨s2,w2⟩:=hy;rcases yD.1 ha with ha |ha<;>rcases yD.1 hb with hb |hb;obtain⟨q,k1,k2⟩:=p.shr a ha b hb x ⟨s1,EV (p.rt _ ha) w1⟩ ⟨s2,EV (p.rt _ hb) w2⟩;exact⟨q,KF (p.rt _ ha) k1,KF (p.rt _ hb) k2⟩;simp at hb;subst hb;obtain⟨i,e,_,_⟩:=nw w2;have:=Fp (p.rt _ ha) (EV (p.rt _ ha) w1);omega;simp at ha;subst ha;obtain⟨i,e,_,_⟩:=nw w1;have:=Fp (p.rt _ hb) (EV (p.rt _ hb) w2);omega;simp at ha hb;subst ha;subst hb;exact⟨s1,w1,w1⟩;intro a ha x hx;have ha:a∈P.roots++[P.N.length]:=ha;obtain⟨s1,w1⟩:=hx;rcases yD.1 ha with ha |ha;obtain⟨z,hz,k⟩:=p.spn a ha x ⟨s1,EV (p.rt _ ha) w1⟩;exact⟨z,List.mem_append_left _ hz,KF (p.rt _ ha) k⟩;simp at ha;subst ha;obtain⟨i,rfl,hi,hw⟩:=nw w1;obtain⟨z,hz,k⟩:=(z3 i hi ⟨_,hw⟩).1;exact⟨z,List.mem_append_right _ hz,nu k⟩;intro a ha x hx y hy;have ha:a∈P.roots++[P.N.length]:=ha;obtain⟨s1,w1⟩:=hx;have hy:y∈(nd (core (P.N++f.Nodes.map (mW P.N.length))) (x:Int)).Arcs:=hy;rcases yD.1 ha with ha |ha;have w2:=EV (p.rt _ ha) w1;rw[zd rP (Fp (p.rt _ ha) w2)]at hy;obtain⟨e,he,k,hf⟩:=p.arc a ha x ⟨s1,w2⟩ y hy;exact⟨e,List.mem_append_left _ he,KF (p.rt _ ha) k,hf⟩;simp at ha;subst ha;obtain⟨i,rfl,hi,hw⟩:=nw w1;rw[ah hg hi]at hy;obtain⟨b,hb,rfl⟩:=List.mem_map.1 hy;obtain⟨e,he,k,hf⟩:=(z3 i hi ⟨_,hw⟩).2 b hb;exact⟨e,List.mem_append_right _ he,nu k,hf⟩;show oJ (P.N++f.Nodes.map (mW P.N.length))<=_;rw[z6l];have h1:=z38 (K:=12) (M:=f.Nodes.map (mW P.N.length)) fun x hx=>by obtain⟨y,hy,rfl⟩:=List.mem_map.1 hx;simp only[mW,gO,yA];exact hs.arcs y hy
 rw[yA]at h1;have:=p.tot;omega
structure Hm(ws:X Nat)(L' L:X aO)(φ:Nat->Nat):Prop where
 lt:∀i,i<L'.length->φ i<L.length
 fw:∀(i:Nat)(c:aO)(a:aR),L'[i]? = some c->a∈c.Arcs->∃y b,L[φ i]? = some y/\b∈y.Arcs/\b.Feat=a.Feat/\b.To=(φ a.To.toNat:Int)
 bw:∀(i:Nat)(y:aO)(b:aR),i<L'.length->L[φ i]? = some y->b∈y.Arcs->∃(j:Nat)(c:aO)(a:aR),L'[j]? = some c/\φ j=φ i/\a∈c.Arcs/\b.Feat=a.Feat/\b.To=(φ a.To.toNat:Int)
 ty:∀(i:Nat)(y:aO),i<L'.length->L[φ i]? = some y->∀k:Nat,(eP ws y.Typex).testBit k=true↔∀(j:Nat)(c:aO),L'[j]? = some c->φ j=φ i->(eP ws c.Typex).testBit k=true
structure LG(ws:X Nat)(L:X aO):Prop where
 ds:∀c∈L,jC c.Arcs
 to:∀c∈L,∀a∈c.Arcs,0<=a.To/\a.To<(L.length:Int)
 ty:∀c∈L,0<=c.Typex/\c.Typex<(ws.length:Int)
def EM(q:Nat->Nat)(W:X (Nat×Nat)):Prop:=∀p∈W,q p.1=q p.2
structure UY(ws:X Nat)(L:X aO)(W:X (Nat×Nat))(I:Nat->Nat)(Q:GFS):Prop where
 hm:Hm ws L Q.Nodes I
 gok:kT Q
 ty:∀(i:Nat)(y:aO),i<L.length->Q.Nodes[I i]? = some y->0<=y.Typex/\y.Typex<(ws.length:Int)
 eq:EM I W
 low:∀q,o9 L q->EM q W->∀i j,i<L.length->j<L.length->I i=I j->q i=q j
structure UA(ws:X Nat)(L:X aO)(W:X (Nat×Nat))(r:Nat)(res:V GFS):Prop where
 no:res=none->∀q,o9 L q->EM q W->VW ws L q
 yes:∀f,res=some f->∃I Q,UY ws L W I Q/\f=cO Q ((I r:Nat):Int)
def QG.hm{ws:X Nat}{L:X aO}{r:Nat->Nat}{g:GFS}(h:QG ws L r g):Hm ws L g.Nodes r :=
 ⟨fun i hi=>by rw[h.len];exact(h.rt i hi).1,fun i c a hi ha=>h.cov i c a hi ha,fun i y b hi hy hb=>by have:=h.snd (r i) y b hy (h.rt i hi).2 hb;simpa[(h.rt i hi).2]using this,fun i y hi hy=>(h.kd (r i) y hy (h.rt i hi).2).2⟩
section
variable{ws:X Nat}{L:X aO}{W:X (Nat×Nat)}
def UY.clo{I:Nat->Nat}{Q:GFS}(h:UY ws L W I Q):o9 L I:=fun i j c e a b hi hj he ha hb hf=>by
 obtain⟨y,x,h1,h2,h3,h4⟩:=h.hm.fw i c a hi ha;obtain⟨y',x',k1,k2,k3,k4⟩:=h.hm.fw j e b hj hb;rw[he,k1]at h1;cases h1;have:=(h.gok _ (zX k1)).dis.eq x h2 x' k2 qq0;subst this;omega
def UY.good{I:Nat->Nat}{Q:GFS}(hw:∀w∈ws,w≠0)(h:UY ws L W I Q):¬ VW ws L I:=fun⟨i,hi,hb⟩=>by
 obtain⟨y,hy⟩:=fE (h.hm.lt i hi);have hk:=h.ty i y hi hy;obtain⟨k,jS⟩:=Nat.exists_testBit_of_ne_zero (hw _ (zX (FC hk)));obtain⟨j,x,q1,q2,q3⟩:=hb k;have:=(h.hm.ty i y hi hy k).1 jS j x q1 q2;rw[q3]at this;cases this
def UA.uniq(hn:ws.Nodup)(hw:∀w∈ws,w≠0)(hg:LG ws L){r:Nat}(hr:r<L.length){res res':V GFS}(h:UA ws L W r res)(h':UA ws L W r res'):res=res':=by
 classical
 cases res with
 |none=>rcases res' with _|f;rfl;obtain⟨I,Q,u,_⟩:=h'.yes f rfl;exact absurd (h.no rfl I u.clo u.eq) (u.good hw)
 |some f=>
  obtain⟨I,Q,u,rfl⟩:=h.yes f rfl;rcases res' with _|f';exact absurd (h'.no rfl I u.clo u.eq) (u.good hw);obtain⟨D6,Q',u',rfl⟩:=h'.yes f' rfl;have e1:∀i j,i<L.length->j<L.length->I i=I j->D6 i=D6 j:=u.low D6 u'.clo u'.eq;have e2:∀i j,i<L.length->j<L.length->D6 i=D6 j->I i=I j:=u'.low I u.clo u.eq
  let Z:Int->Int:=fun v=>if h:∃i,i<L.length/\v=(I i:Int)then(D6 h.choose:Int)else 0
  have TK:∀i,i<L.length->Z (I i:Int)=(D6 i:Int):=fun i hi=>by have rP:∃j,j<L.length/\(I i:Int)=(I j:Int):=⟨i,hi,rfl⟩;show(if h:∃j,j<L.length/\(I i:Int)=(I j:Int)then(D6 h.choose:Int)else 0)=_;rw[dif_pos rP];have hc:=rP.choose_spec;rw[e1 i _ hi hc.1 qq0]
  have nq:∀i,i<L.length->∃y,Q.Nodes[I i]? = some y/\nd Q (I i:Int)=y:=fun i hi=>by obtain⟨y,hy⟩:=fE (u.hm.lt i hi);exact⟨y,hy,by simp[nd,hy]⟩
  have nq':∀i,i<L.length->∃y,Q'.Nodes[D6 i]? = some y/\nd Q' (D6 i:Int)=y:=fun i hi=>by obtain⟨y,hy⟩:=fE (u'.hm.lt i hi);exact⟨y,hy,by simp[nd,hy]⟩
  have iff_:∀i j,i<L.length->j<L.length->(I i=I j↔D6 i=D6 j):=fun i j hi hj=>⟨e1 i j hi hj,e2 i j hi hj⟩;have inL:∀{j:Nat}{c:aO},L[j]? = some c->j<L.length:=fun h=>(zG.1 h).1;have toL:∀{j:Nat}{c:aO}{a:aR},L[j]? = some c->a∈c.Arcs->a.To.toNat<L.length:=fun h ha=>by have:=hg.to _ (zX h) _ ha;omega
  have hS:rZ Q Q' Z (fun v=>∃i,i<L.length/\v=(I i:Int)):=by
   refine⟨?_,?_,?_,?_⟩;rintro v ⟨i,hi,rfl⟩ b hb;obtain⟨y,hy,ey⟩:=nq i hi;have hb:=tO.1 hb;rw[ey]at hb;obtain⟨j,c,a,q1,q2,q3,q4,q5⟩:=u.hm.bw i y b hi hy hb;exact⟨a.To.toNat,toL q1 q3,q5⟩;rintro v w ⟨i,hi,rfl⟩ ⟨j,hj,rfl⟩ e;rw[TK i hi,TK j hj]at e;rw[e2 i j hi hj qq0];rintro v ⟨i,hi,rfl⟩;obtain⟨y,hy,ey⟩:=nq i hi;obtain⟨y',qJ,ey'⟩:=nq' i hi;rw[TK i hi,ey,ey'];refine z93 hn (u'.ty i y' hi qJ) (u.ty i y hi hy) (Nat.eq_of_testBit_eq fun k=>?_);rw[Bool.eq_iff_iff,u'.hm.ty i y' hi qJ k,u.hm.ty i y hi hy k];exact⟨fun q j c hj hr=>q j c hj (e1 j i (inL hj) hi hr),fun q j c hj hr=>q j c hj (e2 j i (inL hj) hi hr)⟩;rintro v ⟨i,hi,rfl⟩;obtain⟨y,hy,ey⟩:=nq i hi;obtain⟨y',qJ,ey'⟩:=nq' i hi;rw[TK i hi];have dg:lI (sar Q' (D6 i:Int)):=by rw[sar,ey'];exact RP (u'.gok _ (zX qJ)).dis
   have de:lI ((sar Q (I i:Int)).map fun a=>(⟨a.Feat,Z a.To⟩:aR)):=by
    have:lI (sar Q (I i:Int)):=by rw[sar,ey];exact RP (u.gok _ (zX hy)).dis
    unfold lI at*;rw[List.pairwise_map];exact this
   refine iq dg de fun b=>?_;rw[tO,ey',List.mem_map];constructor;intro hb;obtain⟨j,c,a,q1,q2,q3,q4,q5⟩:=u'.hm.bw i y' b hi qJ hb;have nZ:=e2 j i (inL q1) hi q2;obtain⟨z,b2,p1,p2,p3,p4⟩:=u.hm.fw j c a q1 q3;rw[nZ,hy]at p1;cases p1;refine⟨b2,by rw[tO,ey];exact p2,?_⟩;rw[p4,TK _ (toL q1 q3),<-q5,p3,<-q4];rintro⟨b2,hb2,rfl⟩;rw[tO,ey]at hb2;obtain⟨j,c,a,q1,q2,q3,q4,q5⟩:=u.hm.bw i y b2 hi hy hb2;have nZ:=e1 j i (inL q1) hi q2;obtain⟨z,b3,p1,p2,p3,p4⟩:=u'.hm.fw j c a q1 q3;rw[nZ,qJ]at p1;cases p1;have:(⟨b2.Feat,Z b2.To⟩:aR)=b3:=by rw[q5,TK _ (toL q1 q3)];cases b3;simp only[aR.mk.injEq];simp only at p3 p4;exact⟨by rw[q4,p3],p4.symm⟩
   rw[this];exact p2
  have i1:=u.hm.lt r hr;have i2:=u'.hm.lt r hr;have:=(hS.canon u.gok u'.gok (r:=(I r:Int)) ⟨by omega,by omega⟩ ⟨r,hr,rfl⟩ (by rw[TK r hr];exact⟨by omega,by omega⟩)).2;rw[TK r hr]at this;rw[this]
def UA.tr(hw:∀w∈ws,w≠0)(hg:LG ws L){L':X aO}{φ:Nat->Nat}(hm:Hm ws L' L φ)(sN:LG ws L'){W':X (Nat×Nat)}(ker:∀q,o9 L' q->EM q W'->∀i j,i<L'.length->j<L'.length->φ i=φ j->q i=q j)
  (w1:∀I:Nat->Nat,EM I W->∀p∈W',I (φ p.1)=I (φ p.2)) (w2:∀p∈W,∃x y,p=(φ x,φ y)/\x<L'.length/\y<L'.length/\∀q,o9 L' q->EM q W'->q x=q y) {r':Nat} (Br:r'<L'.length) {res:V GFS} (h:UA ws L W (φ r') res):UA ws L' W' r' res:=by
 classical
 have inL':∀{j:Nat}{c:aO},L'[j]? = some c->j<L'.length:=fun h=>(zG.1 h).1;have toL':∀{j:Nat}{c:aO}{a:aR},L'[j]? = some c->a∈c.Arcs->a.To.toNat<L'.length:=fun h ha=>by have:=sN.to _ (zX h) _ ha;omega
 let psh:(Nat->Nat)->Nat->Nat:=fun q x=>if h:∃i,i<L'.length/\x=φ i then 2*q h.choose else 2*x+1
 have hp:∀q,o9 L' q->EM q W'->∀i,i<L'.length->psh q (φ i)=2*q i:=fun q hq mZ i hi=>by have rP:∃j,j<L'.length/\φ i=φ j:=⟨i,hi,rfl⟩;show(if h:∃j,j<L'.length/\φ i=φ j then 2*q h.choose else 2*φ i+1)=_;rw[dif_pos rP];have hc:=rP.choose_spec;rw[ker q hq mZ _ _ hi hc.1 hc.2]
 have ho:∀q x,(¬ ∃i,i<L'.length/\x=φ i)->psh q x=2*x+1:=fun q x hx=>by show(if h:∃j,j<L'.length/\x=φ j then 2*q h.choose else 2*x+1)=_;rw[dif_neg hx]
 have hc:∀q,o9 L' q->EM q W'->o9 L (psh q):=fun q hq mZ x y c e a b hx hy he ha hb hf=>by
  by_cases h1:∃i,i<L'.length/\x=φ i;obtain⟨i,hi,rfl⟩:=h1;by_cases h2:∃i,i<L'.length/\y=φ i;obtain⟨j,hj,rfl⟩:=h2;rw[hp q hq mZ i hi,hp q hq mZ j hj]at he;obtain⟨i',c',a',p1,p2,p3,p4,p5⟩:=hm.bw i c a hi hx ha;obtain⟨j',d',b',k1,k2,k3,k4,k5⟩:=hm.bw j e b hj hy hb;have e1:=ker q hq mZ i' i (inL' p1) hi p2;have e2:=ker q hq mZ j' j (inL' k1) hj k2;have:=hq i' j' c' d' a' b' p1 k1 qq0 p3 k3 qq0;rw[p5,k5,zZ,zZ,hp q hq mZ _ (toL' p1 p3),hp q hq mZ _ (toL' k1 k3),this];rw[hp q hq mZ i hi,ho q y h2]at he;omega;by_cases h2:∃i,i<L'.length/\y=φ i;obtain⟨j,hj,rfl⟩:=h2;rw[hp q hq mZ j hj,ho q x h1]at he;omega;rw[ho q x h1,ho q y h2]at he;have:x=y:=by omega
  subst this;rw[hx]at hy;cases hy;rw[(hg.ds c (zX hx)).eq a ha b hb hf]
 have mZ:∀q,o9 L' q->EM q W'->EM (psh q) W:=fun q hq mZ p Vr=>by obtain⟨x,y,rfl,hx,hy,nK⟩:=w2 p Vr;show psh q (φ x)=psh q (φ y);rw[hp q hq mZ x hx,hp q hq mZ y hy,nK q hq mZ]
 refine⟨fun EA q hq rJ=>?_,fun f hf=>?_⟩;obtain⟨x,hx,hb⟩:=h.no EA _ (hc q hq rJ) (mZ q hq rJ);by_cases h1:∃i,i<L'.length/\x=φ i;obtain⟨i,hi,rfl⟩:=h1;refine⟨i,hi,fun k=>?_⟩;obtain⟨y,c,k1,k2,k3⟩:=hb k;rw[hp q hq rJ i hi]at k2;by_cases h2:∃j,j<L'.length/\y=φ j;obtain⟨j,hj,rfl⟩:=h2;rw[hp q hq rJ j hj]at k2;refine Classical.byContradiction fun eT=>?_;have:=(hm.ty j c hj k1 k).2 fun j' c' tS he=>by rcases hbit:(eP ws c'.Typex).testBit k with _|_;exact absurd ⟨j',c',tS,by rw[ker q hq rJ j' j (inL' tS) hj he];omega,hbit⟩ eT;rfl
 rw[k3]at this;cases this;rw[ho q y h2]at k2;omega;obtain⟨c,gg⟩:=fE hx;have hk:=hg.ty c (zX gg);obtain⟨k,jS⟩:=Nat.exists_testBit_of_ne_zero (hw _ (zX (FC hk)));obtain⟨y,e,k1,k2,k3⟩:=hb k;rw[ho q x h1]at k2;by_cases h2:∃j,j<L'.length/\y=φ j;obtain⟨j,hj,rfl⟩:=h2;rw[hp q hq rJ j hj]at k2;omega;rw[ho q y h2]at k2;have:y=x:=by omega
 subst this;rw[gg]at k1;cases k1;rw[jS]at k3;cases k3;obtain⟨I,Q,u,rfl⟩:=h.yes f hf;have cls:∀x y,x<L.length->y<L.length->I x=I y->(∃i,i<L'.length/\x=φ i)->∃i,i<L'.length/\y=φ i:=fun x y hx hy he hxi=>by
  have hq0:o9 L (fun x=>if ∃i,i<L'.length/\x=φ i then L.length else x):=fun x y c e a b hx hy he ha hb hf=>by have e0:(if ∃i,i<L'.length/\x=φ i then L.length else x)=if ∃i,i<L'.length/\y=φ i then L.length else y:=he;have LU:=(zG.1 hx).1;have hyl:=(zG.1 hy).1;show(if _ then _ else _)=if _ then _ else _;by_cases h1:∃i,i<L'.length/\x=φ i;by_cases h2:∃i,i<L'.length/\y=φ i;obtain⟨i,hi,rfl⟩:=h1;obtain⟨j,hj,rfl⟩:=h2;obtain⟨_,_,a',p1,_,p3,_,p5⟩:=hm.bw i c a hi hx ha;obtain⟨_,_,b',k1,_,k3,_,k5⟩:=hm.bw j e b hj hy hb;rw[if_pos ⟨_,toL' p1 p3,by rw[p5,zZ]⟩,if_pos ⟨_,toL' k1 k3,by rw[k5,zZ]⟩];rw[if_pos h1,if_neg h2]at e0;omega;by_cases h2:∃i,i<L'.length/\y=φ i;rw[if_neg h1,if_pos h2]at e0;omega;rw[if_neg h1,if_neg h2]at e0;subst e0;rw[hx]at hy;cases hy;rw[(hg.ds c (zX hx)).eq a ha b hb hf]
  have:=u.low _ hq0 (fun p Vr=>by obtain⟨x,y,rfl,hx,hy,_⟩:=w2 p Vr;show(if _ then _ else _)=if _ then _ else _;rw[if_pos ⟨x,hx,rfl⟩,if_pos ⟨y,hy,rfl⟩]) x y hx hy he;have this:(if ∃i,i<L'.length/\x=φ i then L.length else x)=if ∃i,i<L'.length/\y=φ i then L.length else y:=this;by_cases h2:∃i,i<L'.length/\y=φ i;exact h2;rw[if_pos hxi,if_neg h2]at this;omega
 have inL:∀{j:Nat}{c:aO},L[j]? = some c->j<L.length:=fun h=>(zG.1 h).1;refine⟨fun i=>I (φ i),Q,⟨⟨fun i hi=>u.hm.lt _ (hm.lt i hi),fun i c a hi ha=>?_,fun i y b hi hy hb=>?_,fun i y hi hy k=>?_⟩,u.gok,fun i y hi hy=>u.ty _ y (hm.lt i hi) hy,fun p Vr=>w1 I u.eq p Vr,fun q hq rJ i j hi hj he=>?_⟩,rfl⟩;obtain⟨y,b,h1,h2,h3,h4⟩:=hm.fw i c a hi ha;obtain⟨z,d,k1,k2,k3,k4⟩:=u.hm.fw (φ i) y b h1 h2;exact⟨z,d,k1,k2,by omega,by rw[k4,h4,zZ]⟩;obtain⟨x,c,a,p1,p2,p3,p4,p5⟩:=u.hm.bw (φ i) y b (hm.lt i hi) hy hb;obtain⟨j,hj,rfl⟩:=cls _ _ (hm.lt i hi) (inL p1) p2.symm ⟨i,hi,rfl⟩;obtain⟨j',c',a',k1,k2,k3,k4,k5⟩:=hm.bw j c a hj p1 p3;exact⟨j',c',a',k1,by show I (φ j')=_;rw[k2,p2],k3,by omega,by rw[p5,k5,zZ]⟩;rw[u.hm.ty (φ i) y (hm.lt i hi) hy k];constructor;intro q j c hj he;obtain⟨z,hz⟩:=fE (hm.lt j (inL' hj));exact(hm.ty j z (inL' hj) hz k).1 (q (φ j) z hz he) j c hj rfl;intro q x c hx he;obtain⟨j,hj,rfl⟩:=cls _ _ (hm.lt i hi) (inL hx) he.symm ⟨i,hi,rfl⟩;refine(hm.ty j c hj hx k).2 fun j' c' tS zE=>q j' c' tS ?_;show I (φ j')=_;rw[zE,he];have he:I (φ i)=I (φ j):=he;have:=u.low _ (hc q hq rJ) (mZ q hq rJ) _ _ (hm.lt i hi) (hm.lt j hj) he;rw[hp q hq rJ i hi,hp q hq rJ j hj]at this;omega
end
end Go.Proofs
namespace Go.Proofs
open Go Go.Rx Go.Vx Go.Shelf Go.Sort
set_option maxRecDepth 10000
inductive D4(f:GFS):Int->Int->Prop
 |one {u:Int} {a:aR}:a∈(nd f u).Arcs->D4 f u a.To
 |snoc {u v:Int} {a:aR}:D4 f u v->a∈(nd f v).Arcs->D4 f u a.To
def D4.trans{f:GFS}{u v w:Int}(h:D4 f u v)(h':D4 f v w):D4 f u w:=by induction h' with|one ha=>exact .snoc h ha|snoc _ ha ih=>exact .snoc ih ha
def xW(f:GFS)(s t:X Int):Prop:=∀t1 u t2,t=t1++u::t2->∃w∈s++t1,∃a∈(nd f w).Arcs,a.To=u
def xW.nil(f:GFS)(s:X Int):xW f s []:=fun t1 u t2 h=>by simp at h
def xW.cons{f:GFS}{s t:X Int}{x:Int}(hx:∃w∈s,∃a∈(nd f w).Arcs,a.To=x)(h:xW f (s++[x]) t):xW f s (x::t):=fun t1 u t2 e=>by
 cases t1 with
 |nil=>simp only[List.nil_append,List.cons.injEq]at e;obtain⟨rfl,rfl⟩:=e;simpa using hx
 |cons y t1=>simp only[List.cons_append,List.cons.injEq]at e;obtain⟨rfl,rfl⟩:=e;obtain⟨w,hw,g⟩:=h t1 u t2 rfl;exact⟨w,by simpa using hw,g⟩
def xW.app{f:GFS}:∀{t s t':X Int},xW f s t->xW f (s++t) t'->xW f s (t++t')
 |[],s,t',_,h'=>by simpa using h'
 |x::t,s,t',h,h'=>by have h1:=h [] x t rfl;rw[List.append_nil]at h1;refine xW.cons h1 (xW.app (t:=t) (fun t1 u t2 e=>?_) (by simpa using h'));obtain⟨w,hw,g⟩:=h (x::t1) u t2 (by rw[e];rfl);exact⟨w,by simpa using hw,g⟩
def qz6{f:GFS}(hg:kT f):∀(k:Nat)(o:X Int)(v:Int),Seen f o->gS f v->v ∉ o->f.Nodes.length-o.length<=k->
  ∃t,dfs f k o v=o++v::t/\xW f (o++[v]) t/\∀u∈t,D4 f v u
 |0,o,v,hs,hv,hn,hk=>by have h1:=(hs.snoc hv hn).len;simp only[zU,zO,zS]at h1;omega
 |k+1,o,v,hs,hv,hn,hk=>by
  have E9:=hs.snoc hv hn;have FR:=E9.len;simp only[zU,zO,zS]at FR;have key:∀(l:X aR),(∀a∈l,a∈(nd f v).Arcs/\gS f a.To)->∀(t0:X Int),Seen f (o++v::t0)->xW f (o++[v]) t0->(∀u∈t0,D4 f v u)->
    ∃t,l.foldl (kH (dfs f k)) (o++v::t0)=o++v::t/\xW f (o++[v]) t/\∀u∈t,D4 f v u:=by
   intro l;induction l with
   |nil=>intro _ t0 _ h1 h2;exact⟨t0,rfl,h1,h2⟩|cons a l ih=>
    intro hl t0 hp h1 h2;have FQ:=hl a qq4;have rL:=fun b hb=>hl b (List.mem_cons_of_mem a hb);simp only[List.foldl_cons];by_cases hm:a.To∈o++v::t0;have e:kH (dfs f k) (o++v::t0) a=o++v::t0:=by simp only[kH,hm,if_true]
    rw[e];exact ih rL t0 hp h1 h2;have e:kH (dfs f k) (o++v::t0) a=dfs f k (o++v::t0) a.To:=by simp only[kH,hm,if_false]
    have aQ:(o++v::t0).length=o.length+1+t0.length:=by simp;omega
    obtain⟨t1,d1,d2,d3⟩:=qz6 hg k (o++v::t0) a.To hp FQ.2 hm qq0;obtain⟨q1,_⟩:=Oh hg k (o++v::t0) a.To hp FQ.2 hm qq0;rw[e,d1];rw[d1]at q1;have e2:o++v::t0++a.To::t1=o++v::(t0++a.To::t1):=by simp
    rw[e2]at q1 ⊢;refine ih rL (t0++a.To::t1) q1 (h1.app (xW.cons ⟨v,by simp,a,FQ.1,rfl⟩ (by simpa using d2))) fun u hu=>?_;rcases yD.1 hu with hu |hu
    exact h2 u hu;rcases zI.1 hu with rfl |hu;exact .one FQ.1;exact(D4.one FQ.1).trans (d3 u hu)
  obtain⟨t,g1,g2,g3⟩:=key (sar f v) (fun a ha=>⟨tO.1 ha,by have h1:=(hg _ (wB hv).2).arc a (tO.1 ha);exact⟨h1.2.1,h1.2.2⟩⟩) [] E9 (xW.nil _ _) qq4;exact⟨t,g1,g2,g3⟩
def z5o{f:GFS}(hg:kT f){r:Int}(hr:gS f r):∃t,bP f r=r::t/\xW f [r] t/\∀u∈t,D4 f r u:=by obtain⟨t,h1,h2,h3⟩:=qz6 hg f.Nodes.length [] r (Seen.nil f) hr qq4 qq4;exact⟨t,h1,h2,h3⟩
end Go.Proofs
