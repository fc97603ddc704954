import Derived.Test.YtldlchbgolpkaaaGreatP9
set_option linter.all false
namespace Go.Vx
open Go Go.Rx
def stF:List Nat->Nat->Nat
 |[],_=>0|a::_,0=>a
 |_::l,i+1=>stF l i
def So:List Nat->Nat->Bool
 |[],_=>true|a::l,nx=>cond (DU l a) false (cond (Nat.blt a nx) (So l nx) false)
theorem mc:∀{l:List Nat}{nx:Nat},So l nx=true->l.Nodup/\∀k∈l,k<nx
 |[],nx,_=>⟨List.nodup_nil,fun k h=>by cases h⟩|a::l,nx,h=>by
  simp only[So]at h;cases h1:DU l a with
  |true=>rw[h1]at h;cases h|false=>rw[h1,zD]at h;rcases h2:Nat.blt a nx with _|_;rw[h2]at h;cases h;rw[h2,zC]at h;obtain⟨q1,q2⟩:=mc h;refine⟨List.nodup_cons.2 ⟨fun hm=>?_,q1⟩,fun k hk=>?_⟩;rw[(Mq l a).2 hm]at h1;cases h1;rcases zI.1 hk with rfl |hk;exact zY h2;exact q2 k hk
def Lj(N:Nat):List (Nat×B)->Bool
 |[]=>true|(k,_)::h=>cond (Nat.blt k N) (Lj N h) false
def DP(ns:List Nat)(nx:Nat)(h:List (Nat×B)):List (Nat×B)->Prop
 |[]=>True|(k,b)::r=>gt h (nm ns nx k)=some (rB (nm ns nx) b)/\DP ns nx h r
theorem jp{ns:List Nat}{nx N:Nat}{h:List (Nat×B)}:∀{h0:List (Nat×B)},DP ns nx h h0->Lj N h0=true->yP N h0->∀k b,gt h0 k=some b->k<N/\kH N b/\gt h (nm ns nx k)=some (rB (nm ns nx) b)
 |[],_,_,_,k,b,hg=>by cases hg
 |(j,c)::h0,hh,hk,hb,k,b,hg=>by simp only[DP]at hh;simp only[Lj]at hk;rcases h2:Nat.blt j N with _|_;rw[h2]at hk;cases hk;rw[h2,zC]at hk;simp only[yP]at hb;simp only[gt,beq_eq]at hg;by_cases e:j=k;subst e;simp only[yC,zC,zA]at hg;subst hg;exact⟨zY h2,hb.1,hh.1⟩;simp only[e,yB,zD]at hg;exact jp hh.2 hk hb.2 k b hg
theorem UA(π:Nat->Nat)(l:List U)[q:dQ 0 l]:gJ π l=l:=EP π l q.h
theorem JW{α:Type}(π:Nat->Nat)(c:α->List U)(l:List α)[q:BF c]:sR π (l.map c)=l.map c:=Ws π _ (pJ c (q.h 0) l)
theorem Lc{K V:Type}(π:Nat->Nat)(kU:K->U)(vU:V->U)(es:List (K×V×Nat))[p:XK kU][q:XK vU]:(es.map (mE kU vU)).map (rM π)=es.map (mE kU vU):=by
 rw[List.map_map];refine List.map_congr_left fun e _=>?_;simp only[Function.comp,mE,rM,Vt π _ (p.h 0 _),Vt π _ (q.h 0 _)]
def DV(ns:List Nat)(nx N:Nat)(h:List (Nat×B)):List (Nat×B)->List (Nat×B)
 |[]=>h|(k,b)::r=>cond (Nat.blt k N) (ug (DV ns nx N h r) (nm ns nx k) (rB (nm ns nx) b)) ((nm ns nx k,rB (nm ns nx) b)::DV ns nx N h r)
def IM(N:Nat)(h:List (Nat×B)):Bool:=(List.range N).all fun k=>(gt h k).isSome
theorem ue{ns:List Nat}{nx N:Nat}{h:List (Nat×B)}(hl:ns.length=N)(hi:∀i j,nm ns nx i=nm ns nx j->i=j)(hsome:∀k,k<N->(gt h (nm ns nx k)).isSome=true)(hnew:∀k,N<=k->gt h (nm ns nx k)=none):∀(r:List (Nat×B))(k:Nat),gt (DV ns nx N h r) k=match gt (tR ns nx r) k with
  |some b=>some b|none=>gt h k
 |[],k=>by simp[DV,tR,gt]
 |(j,b)::r,k=>by
  have ih:=ue hl hi hsome hnew r;simp only[DV,tR,d8];cases hj:Nat.blt j N with
  |true=>
   have hjN:j<N:=zY hj;simp only[zC,uO];by_cases e:nm ns nx j=k;subst e;have hs:=hsome j hjN;have:(gt (DV ns nx N h r) (nm ns nx j)).isSome=true:=by rw[ih];split<;>simp_all
   rcases hg:gt (DV ns nx N h r) (nm ns nx j)with _|c;rw[hg]at this;cases this;simp;simp[e,ih]
  |false=>simp only[zD,d8];by_cases e:nm ns nx j=k;simp[e];simp[e,ih]
theorem aY.st{P:Program}{f:FuncId}{args0 args:List U}{h0:List (Nat×B)}{N N1:Nat}{U0 U1:(Nat->Nat)->U}{h1:(Nat->Nat)->List (Nat×B)}{S1:(Nat->Nat)->Sg}(ns:List Nat){σ:Sg}
  (h:aY P f args0 ⟨h0,N⟩ (fun u σ'=>∃t:Nat->Nat,u=U0 t/\σ'=⟨h1 t,N1⟩)) [ha:dQ N args0] [hb:BH N h0]
  (hn:So ns σ.nx=true:=by rfl) (hN:ns.length=N:=by rfl) (hk:Lj N h0=true:=by rfl) (hal:IM N h0=true:=by rfl) (wc:∀t,IM N (h1 t)=true:=by intro t;rfl)
  (hh:DP ns σ.nx σ.h h0:=by simp only[DP,gt,Nat.beq,zC,zD,nm,rB,UA,gJ,rU,JW,Lc,and_true,true_and]<;>first |rfl |exact⟨rfl,trivial⟩|exact⟨rfl,rfl,trivial⟩|exact⟨rfl,rfl⟩)
  (hargs:gJ (nm ns σ.nx) args0=args:=by(simp only[nm,UA,gJ,rU,JW])<;>rfl)
  (hU:∀t,rU (nm ns σ.nx) (U0 t)=U1 t:=by(intro t;simp only[nm,UA,gJ,rU,JW])<;>rfl)
  (hS:∀t,(⟨DV ns σ.nx N σ.h (h1 t),σ.nx+(N1-N)⟩:Sg)=S1 t:=by(intro t;simp only[DV,Nat.blt,Nat.ble,Nat.sub_self,Nat.add_zero,Nat.reduceAdd,Nat.reduceSub,ug,Nat.beq,zC,zD,nm,rB,UA,gJ,rU,JW,Lc])<;>rfl):
  aY P f args σ (fun u σ'=>∃t:Nat->Nat,u=U1 t/\σ'=S1 t):=by
 subst hN;obtain⟨g1,g2⟩:=mc hn;have hsub:=jp hh hk hb.h;have hi:∀i j,nm ns σ.nx i=nm ns σ.nx j->i=j:=fun i j h=>kh g1 g2 h;have hA:∀{h:List (Nat×B)},IM ns.length h=true->∀k,k<ns.length->(gt h k).isSome=true:=fun{h} he k hk=>by unfold IM at he;rw[List.all_eq_true]at he;exact he k (List.mem_range.2 hk)
 have hsome:∀k,k<ns.length->(gt σ.h (nm ns σ.nx k)).isSome=true:=fun k hk=>by have:=hA hal k hk;rcases hg:gt h0 k with _|b;rw[hg]at this;cases this;rw[(hsub k b hg).2.2];rfl
 intro F x vs m w cargs hx hh' hfr he hfit hcargs;have hnew:∀k,ns.length<=k->gt σ.h (nm ns σ.nx k)=none:=fun k hk=>by rcases hg:gt σ.h (nm ns σ.nx k)with _|b;rfl;have h2:=(hh'.ok (nm ns σ.nx k) b (by rw[hx];exact hg)).1;rw[hx,EE ns σ.nx k hk]at h2;omega
 have h3:=aY.frame ns h σ g1 g2 ha.h hsub;rw[hargs]at h3;have h4:aY P f args σ (fun u σ'=>∃t:Nat->Nat,u=U1 t/\σ'=S1 t):=aY.post h3 ?_;exact h4 F x vs m w cargs hx hh' hfr he hfit hcargs;rintro u σ' ⟨u0,IR,⟨t,rfl,rfl⟩,hle,rfl,rfl⟩;refine⟨U1 t,S1 t,?_,?_,t,rfl,rfl⟩;rw[<-hS t];exact Nat.le_add_right _ _;rw[<-hS t,<-hU t];refine Gh.same (n0:=σ.nx) (tm:=[rU (nm ns σ.nx) (U0 t)]) (σ:=Hk ns σ ⟨h1 t,N1⟩) (DV ns σ.nx ns.length σ.h (h1 t)) (fun k=>?_);show _=gt (tR ns σ.nx (h1 t)++BG ns σ.h) k;rw[ue rfl hi hsome hnew,Yb,Ah];cases hg:gt (tR ns σ.nx (h1 t)) k with
 |some b=>rfl|none=>by_cases hkn:k∈ns;exfalso;obtain⟨j,hj,e⟩:=List.getElem_of_mem hkn;obtain⟨_,e2⟩:=BD ns σ.nx j hj;rw[e]at e2;rw[<-e2,Wb hi]at hg;have:=hA (wc t) j hj;rcases FK:gt (h1 t) j with _|c;rw[FK]at this;cases this;rw[FK]at hg;cases hg;rw[if_neg hkn]
end Go.Vx
