import Derived.Test.YtldlchbgolpkaaaGreatP9
set_option linter.all false
namespace Go.Vx
open Go Go.Rx
def stF:List Nat->Nat->Nat
 |[],_=>0|a::_,0=>a
 |_::l,i+1=>stF l i
def pf:List Nat->Nat->Bool
 |[],_=>true|a::l,nx=>cond (I2 l a) false (cond (Nat.blt a nx) (pf l nx) false)
theorem z4k:∀{l:List Nat}{nx:Nat},pf l nx=true->l.Nodup/\∀k∈l,k<nx
 |[],nx,_=>⟨List.nodup_nil,fun k h=>by cases h⟩|a::l,nx,h=>by
  simp only[pf]at h;cases h1:I2 l a with
  |true=>rw[h1]at h;cases h|false=>rw[h1,zD]at h;rcases h2:Nat.blt a nx with _|_;rw[h2]at h;cases h;rw[h2,zC]at h;obtain⟨q1,q2⟩:=z4k h;refine⟨List.nodup_cons.2 ⟨fun hm=>?_,q1⟩,fun k hk=>?_⟩;rw[(xr l a).2 hm]at h1;cases h1;rcases zI.1 hk with rfl |hk;exact zY h2;exact q2 k hk
def wb(N:Nat):List (Nat×B)->Bool
 |[]=>true|(k,_)::h=>cond (Nat.blt k N) (wb N h) false
def LH(ns:List Nat)(nx:Nat)(h:List (Nat×B)):List (Nat×B)->Prop
 |[]=>True|(k,b)::r=>gt h (nm ns nx k)=some (rB (nm ns nx) b)/\LH ns nx h r
theorem za6{ns:List Nat}{nx N:Nat}{h:List (Nat×B)}:∀{h0:List (Nat×B)},LH ns nx h h0->wb N h0=true->GR N h0->∀k b,gt h0 k=some b->k<N/\BelB N b/\gt h (nm ns nx k)=some (rB (nm ns nx) b)
 |[],_,_,_,k,b,hg=>by cases hg
 |(j,c)::h0,hh,hk,hb,k,b,hg=>by simp only[LH]at hh;simp only[wb]at hk;rcases h2:Nat.blt j N with _|_;rw[h2]at hk;cases hk;rw[h2,zC]at hk;simp only[GR]at hb;simp only[gt,beq_eq]at hg;by_cases e:j=k;subst e;simp only[yC,zC,zA]at hg;subst hg;exact⟨zY h2,hb.1,hh.1⟩;simp only[e,yB,zD]at hg;exact za6 hh.2 hk hb.2 k b hg
theorem Fo(Z:Nat->Nat)(l:List U)[q:eU 0 l]:j7 Z l=l:=MF Z l q.h
theorem SE{O:Type}(Z:Nat->Nat)(c:O->List U)(l:List O)[q:BF c]:yH Z (l.map c)=l.map c:=dx Z _ (uE c (q.h 0) l)
theorem zr{K V:Type}(Z:Nat->Nat)(kU:K->U)(vU:V->U)(es:List (K×V×Nat))[p:Kz kU][q:Kz vU]:(es.map (mE kU vU)).map (rM Z)=es.map (mE kU vU):=by
 rw[List.map_map];refine List.map_congr_left fun e _=>?_;simp only[Function.comp,mE,rM,ae Z _ (p.h 0 _),ae Z _ (q.h 0 _)]
def LL(ns:List Nat)(nx N:Nat)(h:List (Nat×B)):List (Nat×B)->List (Nat×B)
 |[]=>h|(k,b)::r=>cond (Nat.blt k N) (ug (LL ns nx N h r) (nm ns nx k) (rB (nm ns nx) b)) ((nm ns nx k,rB (nm ns nx) b)::LL ns nx N h r)
def QW(N:Nat)(h:List (Nat×B)):Bool:=(List.range N).all fun k=>(gt h k).isSome
theorem z3d{ns:List Nat}{nx N:Nat}{h:List (Nat×B)}(hl:ns.length=N)(hi:∀i j,nm ns nx i=nm ns nx j->i=j)(DG:∀k,k<N->(gt h (nm ns nx k)).isSome=true)(i7:∀k,N<=k->gt h (nm ns nx k)=none):∀(r:List (Nat×B))(k:Nat),gt (LL ns nx N h r) k=match gt (AK ns nx r) k with
  |some b=>some b|none=>gt h k
 |[],k=>by simp[LL,AK,gt]
 |(j,b)::r,k=>by
  have ih:=z3d hl hi DG i7 r;simp only[LL,AK,dY];cases hj:Nat.blt j N with
  |true=>
   have hjN:j<N:=zY hj;simp only[zC,BK];by_cases e:nm ns nx j=k;subst e;have hs:=DG j hjN;have:(gt (LL ns nx N h r) (nm ns nx j)).isSome=true:=by rw[ih];split<;>simp_all
   rcases hg:gt (LL ns nx N h r) (nm ns nx j)with _|c;rw[hg]at this;cases this;simp;simp[e,ih]
  |false=>simp only[zD,dY];by_cases e:nm ns nx j=k;simp[e];simp[e,ih]
theorem bE.st{P:Program}{f:FuncId}{args0 args:List U}{h0:List (Nat×B)}{N N1:Nat}{U0 U1:(Nat->Nat)->U}{h1:(Nat->Nat)->List (Nat×B)}{S1:(Nat->Nat)->Sg}(ns:List Nat){X:Sg}
  (h:bE P f args0 ⟨h0,N⟩ (fun u X'=>∃t:Nat->Nat,u=U0 t/\X'=⟨h1 t,N1⟩)) [ha:eU N args0] [hb:BH N h0]
  (hn:pf ns X.nx=true:=by rfl) (hN:ns.length=N:=by rfl) (hk:wb N h0=true:=by rfl) (eS:QW N h0=true:=by rfl) (hal1:∀t,QW N (h1 t)=true:=by intro t;rfl)
  (hh:LH ns X.nx X.h h0:=by simp only[LH,gt,Nat.beq,zC,zD,nm,rB,Fo,j7,rU,SE,zr,and_true,true_and]<;>first |rfl |exact⟨rfl,trivial⟩|exact⟨rfl,rfl,trivial⟩|exact⟨rfl,rfl⟩)
  (dB:j7 (nm ns X.nx) args0=args:=by(simp only[nm,Fo,j7,rU,SE])<;>rfl)
  (hU:∀t,rU (nm ns X.nx) (U0 t)=U1 t:=by(intro t;simp only[nm,Fo,j7,rU,SE])<;>rfl)
  (hS:∀t,(⟨LL ns X.nx N X.h (h1 t),X.nx+(N1-N)⟩:Sg)=S1 t:=by(intro t;simp only[LL,Nat.blt,Nat.ble,Nat.sub_self,Nat.add_zero,Nat.reduceAdd,Nat.reduceSub,ug,Nat.beq,zC,zD,nm,rB,Fo,j7,rU,SE,zr])<;>rfl):
  bE P f args X (fun u X'=>∃t:Nat->Nat,u=U1 t/\X'=S1 t):=by
 subst hN;obtain⟨g1,g2⟩:=z4k hn;have mF:=za6 hh hk hb.h;have hi:∀i j,nm ns X.nx i=nm ns X.nx j->i=j:=fun i j h=>z9s g1 g2 h;have hA:∀{h:List (Nat×B)},QW ns.length h=true->∀k,k<ns.length->(gt h k).isSome=true:=fun{h} he k hk=>by unfold QW at he;rw[List.all_eq_true]at he;exact he k (List.mem_range.2 hk)
 have DG:∀k,k<ns.length->(gt X.h (nm ns X.nx k)).isSome=true:=fun k hk=>by have:=hA eS k hk;rcases hg:gt h0 k with _|b;rw[hg]at this;cases this;rw[(mF k b hg).2.2];rfl
 intro F x vs m w bH hx hh' m7 he fN x3;have i7:∀k,ns.length<=k->gt X.h (nm ns X.nx k)=none:=fun k hk=>by rcases hg:gt X.h (nm ns X.nx k)with _|b;rfl;have h2:=(hh'.ok (nm ns X.nx k) b (by rw[hx];exact hg)).1;rw[hx,M3 ns X.nx k hk]at h2;omega
 have h3:=bE.frame ns h X g1 g2 ha.h mF;rw[dB]at h3;have h4:bE P f args X (fun u X'=>∃t:Nat->Nat,u=U1 t/\X'=S1 t):=bE.post h3 ?_;exact h4 F x vs m w bH hx hh' m7 he fN x3;rintro u X' ⟨u0,R1,⟨t,rfl,rfl⟩,rY,rfl,rfl⟩;refine⟨U1 t,S1 t,?_,?_,t,rfl,rfl⟩;rw[<-hS t];exact Nat.le_add_right _ _;rw[<-hS t,<-hU t];refine Gh.same (n0:=X.nx) (tm:=[rU (nm ns X.nx) (U0 t)]) (X:=Xu ns X ⟨h1 t,N1⟩) (LL ns X.nx ns.length X.h (h1 t)) (fun k=>?_);show _=gt (AK ns X.nx (h1 t)++IV ns X.h) k;rw[z3d rfl hi DG i7,iy,Ox];cases hg:gt (AK ns X.nx (h1 t)) k with
 |some b=>rfl|none=>by_cases hkn:k∈ns;exfalso;obtain⟨j,hj,e⟩:=List.getElem_of_mem hkn;obtain⟨_,e2⟩:=IT ns X.nx j hj;rw[e]at e2;rw[<-e2,av hi]at hg;have:=hA (hal1 t) j hj;rcases N9:gt (h1 t) j with _|c;rw[N9]at this;cases this;rw[N9]at hg;cases hg;rw[if_neg hkn]
variable{n:Nat}
theorem zbn{F:Nat->lK->Prop}{y:Cx}{K:Nat}{l:List U}{e:TypeId}{sz t:Nat}{h:List (Nat×B)}(hy:y.X=⟨(K,.vec l e sz t)::h,K+1⟩)(hh:kF y)(hf:Fr F y)(hb:∀k b,gt h k=some b->k<K/\BelB K b)(hl:aL 0 l):
  ∃y':Cx,y'.X=⟨(K,.vec l e sz 0)::h,K+1⟩/\y'.s=y.s/\kF y'/\Fr F y'/\Ke K y y'/\∀v,aD y (.vl K t 0 n) v->aD y' (.vl K 0 0 n) v:=by
 have gy:∀j,gt y.X.h j=if K=j then some (.vec l e sz t)else gt h j:=fun j=>by rw[hy];exact dY _ _ _ _
 have HQ:∀j,gt ((K,B.vec l e sz 0)::h) j=if K=j then some (.vec l e sz 0)else gt h j:=fun j=>dY _ _ _ _;have jM:y.X.nx=K+1:=by rw[hy]
 let y':Cx:=⟨y.Y,⟨(K,.vec l e sz 0)::h,K+1⟩,y.s⟩
 have fW:Mo K y y':=by refine⟨fun j h1 h2=>⟨by show j<K+1;omega,fun b' cU=>?_⟩,fun _ _ _ h=>h⟩;have qX:gt ((K,B.vec l e sz 0)::h) j=some b':=cU;rw[HQ,if_neg (by omega)]at qX;exact⟨b',by rw[gy,if_neg (by omega)];exact qX,zF _,fun _=>⟨rfl,fun l e sz st h=>⟨l,h⟩⟩⟩
 refine⟨y',rfl,rfl,⟨fun j b hbj=>?_,fun j j' b b' i hbj hbj' h1 h2=>?_,hh.bd⟩,fun i b J=>?_,fW.ke,fun v hv=>?_⟩;have qX:gt ((K,B.vec l e sz 0)::h) j=some b:=hbj;rw[HQ]at qX;by_cases e1:K=j;subst e1;rw[if_pos rfl]at qX;cases qX;refine⟨by show K<K+1;omega,?_⟩;obtain⟨_,q1,q2,q3⟩:=hh.ok K (.vec l e sz t) (by rw[gy,if_pos rfl]);refine⟨q1,q2,?_⟩;rcases q3 with q3 |⟨i,l',r1,r2,r3⟩;exact .inl q3;exact .inr ⟨i,l',r1,r2,fW.ke.E (aL.le (Nat.zero_le _) l hl) r3⟩;rw[if_neg e1]at qX;obtain⟨h1,h2⟩:=hb j b qX;refine⟨by show j<K+1;omega,?_⟩;exact(hh.ok j b (by rw[gy,if_neg e1];exact qX)).2.monoB h2 fW rfl fun _ _ _ h=>h
 have key:∀j b,gt ((K,B.vec l e sz 0)::h) j=some b->∃c,gt y.X.h j=some c:=fun j b hb=>by rw[HQ]at hb;by_cases e1:K=j;exact⟨_,by rw[gy,if_pos e1]⟩;rw[if_neg e1]at hb;exact⟨b,by rw[gy,if_neg e1];exact hb⟩
 obtain⟨c,g1⟩:=key j b hbj;obtain⟨c',g2⟩:=key j' b' hbj';exact hh.inj j j' c c' i g1 g2 h1 h2;obtain⟨h1,h2⟩:=hf i b J;refine⟨h1,fun j c hc=>?_⟩;have Cd:gt ((K,B.vec l e sz 0)::h) j=some c:=hc;rw[HQ]at Cd;by_cases e1:K=j;exact h2 j _ (by rw[gy,if_pos e1]);rw[if_neg e1]at Cd;exact h2 j c (by rw[gy,if_neg e1];exact Cd);simp only[aD]at hv ⊢;refine⟨hv.1,by show K<K+1;omega,fun b hb=>?_⟩;have qX:gt ((K,B.vec l e sz 0)::h) K=some b:=hb;rw[HQ,if_pos rfl]at qX;cases qX;obtain⟨_,g2⟩:=hv.2.2 (.vec l e sz t) (by rw[gy,if_pos rfl]);obtain⟨l2,e2,sz2,g3,g4⟩:=g2 rfl;cases g3;exact⟨zF _,fun _=>⟨l,e,sz,rfl,g4⟩⟩
theorem ql{O:Type}(c:O->List U){P:Program}{f:FuncId}{ys:List O}{e:TypeId}{sz:Nat}{a7:List U}[hc:BF c][ha:eU 0 a7]{k:Nat}
  (h:bE P f a7 ⟨[],0⟩ (fun u X'=>∃t',u=.vl k t' 0 ys.length/\X'=⟨[(k,.vec (ys.map c).flatten e sz t')],k+1⟩))
  (X:Sg) (K:Nat) (hK:X.nx+k=K):
  bE P f a7 X (fun u X'=>u=.vl K 0 0 ys.length/\X'=⟨(K,.vec (ys.map c).flatten e sz 0)::X.h,K+1⟩):=fun F x vs m w bH hx hh m7 he fN dB=>by
 have h1:=bE.own1 c h X K hK;refine(h1 F x vs m w bH hx hh m7 he fN dB).mono ?_;rintro e' w₁ ⟨y,aH,u,v,cv,q1,⟨t',rfl,q3⟩,q4,q5,q6,q7,q8,q9,q10⟩;obtain⟨y',z1,z2,z3,z4,z5,z6⟩:=zbn (F:=F) q3 q6 q7 (fun k b hb=>by
  have:=hh.ok k b (by rw[hx];exact hb);rw[hx]at this;refine⟨by omega,?_⟩;have KL:=this.2.belB;rw[hx]at KL;cases b with
  |row l e=>exact aL.le (by omega) l KL|vec l e s st=>exact aL.le (by omega) l KL
  |map es cl=>exact fun e he=>⟨bB.le (by omega) _ (KL e he).1,bB.le (by omega) _ (KL e he).2⟩) (BP 0 (hc.h 0) ys)
 exact⟨y',aH,_,v,cv,q1,⟨rfl,z1⟩,by rw[z2];exact q4,by rw[z2];exact q5,z3,z4,z6 v q8,q9.trans (z5.le (by rw[hx];omega)),by rw[z1,hx];show X.nx<=K+1;omega⟩
theorem E6{P:Program}{T:Tb}{a9 r:List Oper}{o:Oper}{l:List (Nat×U)}{X X1:Sg}{aX:List RK}{K:List RK->List U->Sg->Prop}{u:U}{f:FuncId}{args:List U}(hw:cJ a9 (fr n l) o=some true)(hc:k8 T (fr n l) o.op=some (f,args))(k9:bE P f args X (fun u' X'=>u'=u/\X'=X1)){d:Tmp}(he:o.dst=some d)(hd:Nat.blt d n=true)
  (hk:RH P T a9 r (fr n ((d,u)::l)) X1 ((3,⟨fr n l,o,u,true,true,X,X1⟩)::aX) K):RH P T a9 (o::r) (fr n l) X aX K :=
 RH.callM hw hc k9 (by rw[he,sV (d:=some d) u hd];exact hk)
def GP(k:IntKind)(a b:Int):Int:=k.wrap (BitVec.ofInt k.bits a&&&BitVec.ofInt k.bits b).toNat
def Ju(k:IntKind)(a b:Int):Int:=k.wrap (BitVec.ofInt k.bits a|||BitVec.ofInt k.bits b).toNat
def SF(k:IntKind)(a b:Int):Int:=k.wrap (BitVec.ofInt k.bits a &&& ~~~ BitVec.ofInt k.bits b).toNat
theorem qut(k:IntKind)(a b:Int):kL .andNot k a k b=some (.int k (SF k a b)):=by simp[kL,SF]
theorem eo(k:IntKind)(a b:Int):kL .and k a k b=some (.int k (GP k a b)):=by simp[kL,GP]
theorem Ue(k:IntKind)(a b:Int):kL .or k a k b=some (.int k (Ju k a b)):=by simp[kL,Ju]
def XN(s:List UInt8)(i:Int):Option Int:=if 0<=i/\i<(s.length:Int)then(s[i.toNat]?).map fun b=>(b.toNat:Int)else none
theorem ah{T:Tb}{X:Sg}{l:List (Nat×U)}{t:TypeId}{x y:Operand}{s:List UInt8}{k:IntKind}{i z:Int}(hd:T.und t=some .string)(hx:c7 n l x=some (.str s))(hy:c7 n l y=some (.int k i))(h:XN s i=some z):bM T X (fr n l) (.index t x y)=some (.int .u8 z,X):=by
 unfold XN at h;split at h;rename_i hp;rcases hb:s[i.toNat]? with _|b;rw[hb]at h;cases h;rw[hb]at h;simp only[zM,zA]at h;subst h;have e1:rW i s.length=true:=OE hp;refine vM ?_;simp only[gG,fF hx,fF hy,we,g2,toV,Y0,hd,e1,zC,iZ,hb,iI];cases h
def qd(X τ:Sg):Prop:=∀k b,gt X.h k=some b->gt τ.h k=some b
section
variable{X τ:Sg}(hs:qd X τ)
include hs
variable{k:Nat}
theorem Pm{st:Nat}(h:bU X k st=true):bU τ k st=true:=by
 unfold bU at*;rcases hg:gt X.h k with _|b;rw[hg]at h;cases h;rw[hg]at h;rw[hs k b hg];exact h
theorem SN{O:Type}{st:Nat}{v00:Option O}{u:O}(h:cond (bU X k st) v00 none=some u):cond (bU τ k st) v00 none=some u:=by
 rcases hl:bU X k st with _|_;rw[hl]at h;cases h;rw[hl]at h;rw[Pm hs hl];exact h
theorem qu7{st:Nat}{l:List U}(h:cellsOf X k st=some l):cellsOf τ k st=some l:=by
 unfold cellsOf at*;rcases hg:gt X.h k with _|b;rw[hg]at h;cases h;rw[hg]at h;rw[hs k b hg];exact h
theorem qrl{st:Nat}{l:List U×TypeId×Nat}(h:wK X k st=some l):wK τ k st=some l:=by
 unfold wK at*;rcases hg:gt X.h k with _|b;rw[hg]at h;cases h;rw[hg]at h;rw[hs k b hg];exact h
variable{T:Tb}{tm:List U}
variable{op:Op}
variable{u:U}
theorem z0m(h:nC T X tm op=some u):nC T τ tm op=some u:=by
 cases op with
 |load t x=>
  simp only[nC]at*;rcases hx:c8 tm x with _|a;rw[hx]at h;exact h;rw[hx]at h;cases a with
  |ptr k st off=>simp only[]at*;rcases hc:cellsOf X k st with _|l;rw[hc]at h;cases h;rw[hc]at h;rw[qu7 hs hc];exact h
  |_=>exact h
 |lookup t x k ok=>
  simp only[nC]at*;rcases hd:T.und t with _|d;rw[hd]at h;cases h;rw[hd]at h;cases d with
  |map kt et=>
   rcases hx:c8 tm x with _|a;rw[hx]at h;exact h;rw[hx]at h;rcases hk:c8 tm k with _|ku;rw[hk]at h;cases h;rw[hk]at h;cases a with
   |map r=>
    simp only[]at*;cases hg:gt X.h r with
    |none=>rw[hg]at h;rcases hv:toV ku with _|kv;rw[hv]at h;exact h;rw[hv]at h;simp only[]at h;cases qW:oL T 50 kt kv<;>rw[qW]at h<;>cases h
    |some b=>rw[hg]at h;rw[hs r b hg];exact h
   |_=>exact h
  |_=>exact h
 |_=>exact h
theorem qrk{n:Nat}(hn:n≠0)(h:eK X u=n):eK τ u=n:=by
 unfold eK at*;cases u with
 |ptr k st off=>simp only[]at*;rcases hl:bU X k st with _|_;rw[hl]at h;exact absurd h.symm hn;rw[hl]at h;rw[Pm hs hl];exact h
 |sl k a b c=>simp only[]at*;rcases hl:bU X k 0 with _|_;rw[hl]at h;exact absurd h.symm hn;rw[hl]at h;rw[Pm hs hl];exact h
 |map k=>simp only[]at*;rcases hl:bU X k 0 with _|_;rw[hl]at h;exact absurd h.symm hn;rw[hl]at h;rw[Pm hs hl];exact h
 |vl k st off m=>cases m with|zero=>exact h|succ m=>simp only[]at*;rcases hl:bU X k st with _|_;rw[hl]at h;exact absurd h.symm hn;rw[hl]at h;rw[Pm hs hl];exact h
 |isl t l=>cases l<;>exact h|_=>exact h
variable{t:TypeId}
variable{x:U}
theorem qwx{op:BinOp}{y:U}(h:OA T X op t x y=some u):OA T τ op t x y=some u:=by
 unfold OA at*;by_cases hk:u9 T t=0;simp only[beq_eq,hk,yC,zC]at h;cases h;simp only[beq_eq,hk,yB,zD]at h ⊢;by_cases hx:eK X x=u9 T t;have:=qrk hs hk hx;simpa[hx,this]using h;by_cases hy:eK X y=u9 T t;have FU:=qrk hs hk hy;by_cases hn:F5 x=u9 T t;have I_:W7 op=some u:=by simpa[hx,hy,hn]using h
 have hz:eK τ x=0:=by cases x<;>simp[F5]at hn<;>first |rfl |exact absurd hn.symm hk
 have hz':¬ eK τ x=u9 T t:=by rw[hz];exact fun h=>hk h.symm
 simpa[hz',FU,hn]using I_;simp[hx,hn]at h;by_cases hn:F5 x=u9 T t;simp[hx,hn,hy]at h;simp[hx,hn]at h
theorem z1x{op:BinOp}{y:U}(h:R4 T X op t x y=some u):R4 T τ op t x y=some u:=by
 unfold R4 at*;rcases hg:g2 (pX T op t) x y with _|r;rw[hg]at h;exact qwx hs h;rw[hg]at h;exact h
theorem qs2{f:Nat}(h:SI T X t x f=some u):SI T τ t x f=some u:=by
 unfold SI at*;split at h;split at h;split at h;split at h;exact SN hs h;exact h;cases h;cases h;cases h;cases h
theorem qsc{i:U}(h:BN T X t x i=some u):BN T τ t x i=some u:=by
 unfold BN at*;split at h;split at h;split at h;split at h;exact SN hs h;split at h;rename_i hv;rw[qrl hs hv];exact h;cases h;exact h;cases h;cases h;split at h;split at h;exact SN hs h;exact h;cases h;cases h;cases h;cases h
theorem z3t(h:lenU T X t x=some u):lenU T τ t x=some u:=by
 unfold lenU at*;split at h;split at h;exact h;exact SN hs h;exact SN hs h;exact h;cases h;exact h;exact h;split at h;exact h;split at h;rename_i hv;rw[hs _ _ hv];exact h;cases h;cases h;cases h
theorem z2d(h:GE T X t x=some u):GE T τ t x=some u:=by
 unfold GE at*;split at h;split at h;exact h;exact SN hs h;cases h;cases h
theorem qxc{a b c:Option Value}(h:IZ T X t x a b c=some u):IZ T τ t x a b c=some u:=by
 unfold IZ at*;split at h;exact h;split at h;split at h;exact h;exact SN hs h;split at h;rename_i hv;rw[qrl hs hv];exact h;cases h;exact h;cases h;cases h;cases h
theorem z0l(h:gG T X tm op=some u):gG T τ tm op=some u:=by
 cases op with
 |nilCheck x=>simp only[gG]at*;split at h;exact SN hs h;exact h;exact h;cases h|binOp o t x y ty=>simp only[gG]at*;split at h;exact z1x hs h;cases h
 |slice t x lo hi mx=>simp only[gG]at*;split at h;exact qxc hs h;cases h|fieldAddr t x f=>simp only[gG]at*;split at h;exact qs2 hs h;cases h
 |indexAddr t x i=>simp only[gG]at*;split at h;exact qsc hs h;cases h|call c=>simp only[gG]at*;split at h;split at h;exact z3t hs h;cases h;split at h;exact z2d hs h;cases h;exact h;exact h;cases h
 |_=>exact h
def XO:Op->Bool
 |.alloc _ |.box _ _ |.store _ _ _ |.buildSlice _ _ _ |.makeSlice _ _ _ |.makeMap _ _ |.mapUpdate _ _ _ _ |.insert _ _ _ _ |.mapEntry _ _ _ |.entryStore _ _ _ _=>false|.call c=>(match c.callee with
  |.builtin .append=>false|.builtin .copy=>false
  |.builtin .delete=>false|.builtin .clear=>false
  |_=>true)
 |_=>true
omit hs in
theorem z2l{op:Op}(h:XO op=true):nO T X tm op=none:=by
 cases op<;>simp only[XO]at h<;>first |rfl |(cases h)|skip
 case call c=>simp only[nO];split<;>simp_all
theorem z3z(hn:XO op=true)(h:bM T X tm op=some (u,X)):bM T τ tm op=some (u,τ):=by
 unfold bM at*;cases hp:gG T X tm op with
 |some v=>rw[hp]at h;simp only[zA,zB,and_true]at h;subst h;rw[z0l hs hp]|none=>
  rw[hp]at h;rcases hr:nC T X tm op with _|v;rw[hr]at h;simp only[z2l hn]at h;cases h;rw[hr]at h;simp only[zA,zB,and_true]at h;subst h;have Bg:gG T τ tm op=none:=by cases op<;>first |rfl |(simp[nC]at hr)
  rw[Bg,z0m hs hr]
end
theorem BelB.le{n k:Nat}(h:n<=k):(b:B)->BelB n b->BelB k b
 |.row l _,hb=>aL.le h l hb|.vec l _ _ _,hb=>aL.le h l hb
 |.map es _,hb=>fun e he=>⟨bB.le h _ (hb e he).1,bB.le h _ (hb e he).2⟩
def rF:Option Nat->Nat->U
 |none,k=>.ptr k 0 0|some n,k=>.sl k 0 n n
variable{F:Nat->lK->Prop}
theorem z4b{y:Cx}{X:Sg}{nx0 k:Nat}{l:List U}{e:TypeId}(hy:y.X=newU X (.row l e))(hh:kF y)(hf:Fr F y)(Bt:nx0<=k)(DM:k<X.nx)(Wc:gt X.h k=none)
  (aE:∀j b,gt X.h j=some b->j<X.nx) (hl:aL 0 l) (oA:∀j b,gt X.h j=some b->BelB nx0 b):
  ∃y':Cx,y'.X=⟨(k,.row l e)::X.h,X.nx⟩/\y'.s=y.s/\kF y'/\Fr F y'/\Ke nx0 y y'/\(∀o v,aD y (rF o X.nx) v->aD y' (rF o k) v)/\(∀o j v,j≠k->j<X.nx->aD y (rF o j) v->aD y' (rF o j) v):=by
 have gy:∀j,gt y.X.h j=if X.nx=j then some (.row l e)else gt X.h j:=fun j=>by rw[hy];simp only[newU,dY]
 have HQ:∀j,gt ((k,B.row l e)::X.h) j=if k=j then some (.row l e)else gt X.h j:=fun j=>by rw[dY]
 have old:∀j b,gt X.h j=some b->gt y.X.h j=some b:=fun j b hb=>by have:=aE j b hb;rw[gy,if_neg (by omega)];exact hb
 have hnk:∀j b,gt X.h j=some b->j≠k:=fun j b hb h=>by subst h;rw[Wc]at hb;cases hb
 have fW:Mo nx0 y ⟨fun j=>if j=k then y.Y X.nx else y.Y j,⟨(k,.row l e)::X.h,X.nx⟩,y.s⟩:=by refine⟨fun j h1 h2=>⟨by simp only;omega,fun b' cU=>?_⟩,fun _ _ _ h=>h⟩;simp only[HQ]at cU;rw[if_neg (by omega)]at cU;exact⟨b',old j b' cU,zF _,fun _=>⟨by simp only;rw[if_neg (by omega)],fun l e sz st h=>⟨l,h⟩⟩⟩
 refine⟨⟨fun j=>if j=k then y.Y X.nx else y.Y j,⟨(k,.row l e)::X.h,X.nx⟩,y.s⟩,rfl,rfl,⟨fun j b hb=>?_,fun j j' b b' i hb cU h1 h2=>?_,hh.bd⟩,fun i b J=>?_,fW.ke,fun o v hv=>?_,fun o j v hj hjl hv=>?_⟩;simp only[HQ]at hb;by_cases nK:k=j;subst nK;rw[if_pos rfl]at hb;cases hb;refine⟨DM,?_⟩;obtain⟨_,h2⟩:=hh.ok X.nx (.row l e) (by rw[gy,if_pos rfl]);obtain⟨q1,i,l',q2,q3,q4⟩:=h2;exact⟨q1,i,l',by simp[q2],q3,fW.ke.E (aL.le (Nat.zero_le _) l hl) q4⟩;rw[if_neg nK]at hb;refine⟨aE j b hb,?_⟩;exact(hh.ok j b (old j b hb)).2.monoB (oA j b hb) fW (by simp only;rw[if_neg (fun h=>nK h.symm)]) fun _ _ _ h=>h;have key:∀j b,gt ((k,B.row l e)::X.h) j=some b->∀i,(if j=k then y.Y X.nx else y.Y j)=some i->∃j0 b0,gt y.X.h j0=some b0/\y.Y j0=some i/\(j=k/\j0=X.nx\/j≠k/\j0=j/\j<X.nx):=fun j b hb i hi=>by rw[HQ]at hb;by_cases nK:j=k;rw[if_pos nK]at hi;exact⟨X.nx,.row l e,by rw[gy,if_pos rfl],hi,.inl ⟨nK,rfl⟩⟩;rw[if_neg (fun h=>nK h.symm)]at hb;rw[if_neg nK]at hi;exact⟨j,b,old j b hb,hi,.inr ⟨nK,rfl,aE j b hb⟩⟩
 obtain⟨a,ba,g1,g2,g3⟩:=key j b hb i h1;obtain⟨c,bc,g4,g5,g6⟩:=key j' b' cU i h2;have:=hh.inj a c ba bc i g1 g4 g2 g5;omega;obtain⟨h1,h2⟩:=hf i b J;refine⟨h1,fun j c hc=>?_⟩;simp only[HQ]at hc;by_cases nK:j=k;simp only[nK,if_true];exact h2 X.nx (.row l e) (by rw[gy,if_pos rfl]);rw[if_neg (fun h=>nK h.symm)]at hc;simp only[nK,if_false];exact h2 j c (old j c hc);cases o<;>(
  simp only[rF,aD,Ref]at hv ⊢;refine⟨hv.1,DM,fun b hb=>?_⟩;simp only[HQ,if_true]at hb;have:=hv.2.2 b (by rw[gy,if_pos rfl];exact hb);simpa using this)
 cases o<;>(
  simp only[rF,aD,Ref]at hv ⊢;refine⟨hv.1,hjl,fun b hb=>?_⟩;simp only[HQ,if_neg (fun h:k=j=>hj h.symm)]at hb;have:=hv.2.2 b (old j b hb);simpa[hj]using this)
structure Al where
 i:Nat
 k:Nat
 o:Option Nat
 l:List U
 e:TypeId
def CT(P:Program)(T:Tb)(tm:List U)(op:Op)(al:Al):Prop :=
 (∀s,bM T s tm op=some (rF al.o s.nx,newU s (.row al.l al.e)))\/∃f args,k8 T tm op=some (f,args)/\∀s,bE P f args s (fun u s'=>u=rF al.o s.nx/\s'=newU s (.row al.l al.e))
variable{P:Program}
variable{T:Tb}
variable{tm:List U}
variable{op:Op}
variable{al:Al}
theorem CT.congr{tm':List U}(h:CT P T tm op al)(hc:∀x∈op.operands.toList,c8 tm' x=c8 tm x):CT P T tm' op al:=by
 rcases h with h |⟨f,args,h1,h2⟩;exact .inl fun s=>by rw[YL hc];exact h s
 exact .inr ⟨f,args,by rw[kw hc];exact h1,h2⟩
theorem CT.nd(h:CT P T tm op al):∀c,op≠.defer c:=by
 rcases h with h |⟨f,args,h1,_⟩;exact O8 (h ⟨[],0⟩);exact Pc h1
theorem CT.ne{X:Sg}{u:U}(h:CT P T tm op al)(h':bM T X tm op=some (u,X)):False:=by
 rcases h with h |⟨f,args,h1,_⟩;have:=h X;rw[h']at this;simp only[zA,zB]at this;have:=congrArg Sg.nx this.2;simp only[newU]at this;omega;rw[qu6 h1]at h';cases h'
theorem St.mkA(hT:lF P T){x:Cx}{tv:List Value}{m:Nm}{w:World}{a:Act}(st:St F x tm tv m w a)(o:Oper)(h:CT P T tm o.op al){next:Act->World->Prop}{Q:Exit->Act->World->Prop}
  (hn:∀y cX aH w₁ bC,y.X=newU x.X (.row al.l al.e)->St F y (dW tm o.dst (rF al.o x.X.nx)) cX aH w₁ bC->bP m x.s w aH y.s w₁->Ke x.X.nx x y->x.X.nx<=y.X.nx->bC.defers=a.defers->next bC w₁):o.wp P a w next Q:=by
 rcases h with h |⟨f,args,h1,h2⟩;exact st.op hT o (h x.X) hn;exact st.call hT o h1 (h2 x.X) fun y u cX aH w₁ bC ⟨e1,e2⟩=>by subst e1;exact hn y cX aH w₁ bC e2
structure Loc(T:Tb)(a9:List Oper)(lJ:List Al)(i:Nat)(r:dQ)(K:Nat)(q q':List U)(e:TypeId):Prop where
 name:∃al∈lJ,al.k=K
 row:gt r.s.h K=some (.row q e)
 out:r.s'=⟨ug r.s.h K (.row q' e),r.s.nx⟩
 dst:r.o.dst=none
 run:∀ τ:Sg,gt τ.h K=some (.row q e)->bM T τ r.tm r.o.op=some (r.u,⟨ug τ.h K (.row q' e),τ.nx⟩)
 pre:∀al∈lJ,Pre a9 i al.i\/(al.k≠K/\aL al.k q')
 want:cJ a9 r.tm r.o=some true
structure ChA(P:Program)(T:Tb)(a9:List Oper)(tm₀:List U)(Xb X1:Sg)(rs:List dQ)(lJ:List Al):Prop where
 some:lJ≠[]
 names:∀al∈lJ,Xb.nx<=al.k/\al.k<X1.nx
 nodup:∀a∈lJ,∀b∈lJ,a.k=b.k->a.i=b.i
 le:Xb.nx<=X1.nx
 at_:∀al∈lJ,∃r d,rs[al.i]? = .some r/\r.u=rF al.o al.k/\r.act=false/\r.mv=true/\CT P T r.tm r.o.op al/\r.o.guard=none/\r.o.dst=.some d
 row:∀al∈lJ,aL 0 al.l
 all:∀(i:Nat)(r:dQ),rs[i]? = .some r->r.act=false->r.mv=true->∃al∈lJ,al.i=i
 own:∀al∈lJ,gt X1.h al.k=.some (.row al.l al.e)
 oth:∀j,(∀al∈lJ,al.k≠j)->gt X1.h j=gt Xb.h j
 acts:∀(i:Nat)(r:dQ),rs[i]? = .some r->r.act=true->(∀al∈lJ,Pre a9 i al.i)\/∃K q q' e,Loc T a9 lJ i r K q q' e
 early:∀(i:Nat)(r:dQ),rs[i]? = .some r->r.act=false->r.mv=false->(∀al∈lJ,Pre a9 i al.i)\/(bB Xb.nx r.u/\(cJ a9 r.tm r.o=.some true->bM T r.s r.tm r.o.op=.some (r.u,r.s')->XO r.o.op=true/\bM T ⟨Xb.h,X1.nx⟩ r.tm r.o.op=.some (r.u,⟨Xb.h,X1.nx⟩)))
section
variable{P:Program}{T:Tb}(hT:lF P T)(a9:Array Oper){tm₀:List U}{Xb X1:Sg}{rs:List dQ}{tm':List U}{X':Sg}{lJ:List Al}
 (fV:Kx P T a9.toList tm₀ X1 rs tm' X') (bY:MI a9.toList=true) (DQ:qj T a9.toList rs) (eS:ChA P T a9.toList tm₀ Xb X1 rs lJ)
include fV eS
theorem Dh(Q7:∀j b,gt Xb.h j=some b->j<Xb.nx/\BelB Xb.nx b)(hm:al∈lJ):∀p,p<=rs.length->(∀(e:Nat)(q:dQ),rs[e]? = some q->q.act=true->e<p->¬ Pre a9.toList e al.i)->
  gt (eV rs X' p).h al.k=some (.row al.l al.e)/\(∀j b,gt (eV rs X' p).h j=some b->BelB al.k b)/\(∀j,(∀al∈lJ,al.k≠j)->gt (eV rs X' p).h j=gt Xb.h j)/\(eV rs X' p).nx=X1.nx:=by
 intro p;induction p with
 |zero=>
  intro _ _;rw[fV.s0];refine⟨eS.own al hm,fun j b hb=>?_,eS.oth,rfl⟩;by_cases hj:∀al∈lJ,al.k≠j;rw[eS.oth j hj]at hb;exact BelB.le (eS.names al hm).1 _ (Q7 j b hb).2;have:∃al∈lJ,al.k=j:=by apply Classical.byContradiction;intro hc;exact hj fun al hm h=>hc ⟨al,hm,h⟩
  obtain⟨al',dJ,rfl⟩:=this;rw[eS.own al' dJ]at hb;cases hb;exact aL.le (Nat.zero_le _) _ (eS.row al' dJ)
 |succ p ih=>
  intro hp eE;have hr:rs[p]? = some rs[p]:=by simp[show p<rs.length by omega]
  obtain⟨f1,f2,f3,f4⟩:=ih (by omega) fun e q h1 h2 h3=>eE e q h1 h2 (by omega);obtain⟨_,g2,g3,_⟩:=fV.all p _ hr;have e1:eV rs X' p=rs[p].s:=by simp[eV,hr]
  rw[g3];rw[e1]at f1 f2 f3 f4;rcases ha:rs[p].act with _|_;rw[g2.quiet ha];exact⟨f1,f2,f3,f4⟩;rcases eS.acts p _ hr ha with h |⟨K,q,q',e,hL⟩;exact absurd (h al hm) (eE p _ hr ha (zN _));have hK:al.k≠K/\aL al.k q':=by rcases hL.pre al hm with h |h;exact absurd h (eE p _ hr ha (zN _));exact h
  obtain⟨alK,Ki,Kk⟩:=hL.name;rw[hL.out];refine⟨?_,fun j b hb=>?_,fun j hj=>?_,f4⟩;show gt (ug rs[p].s.h K _) al.k=_;rw[BK,if_neg fun h=>hK.1 h.symm];exact f1;simp only[BK]at hb;by_cases hj:K=j;rw[if_pos hj,hL.row]at hb;cases hb;exact hK.2;rw[if_neg hj]at hb;exact f2 j b hb;show gt (ug rs[p].s.h K _) j=_;rw[BK,if_neg fun h=>hj alK Ki (Kk.trans h)];exact f3 j hj
include hT bY DQ
theorem zad{ro:Option Nat}{n0:Nat}(gh:n0<=Xb.nx)(Wy:aL Xb.nx tm₀)(Q7:∀j b,gt Xb.h j=some b->j<Xb.nx/\BelB Xb.nx b){x0:Cx}{m0:Nm}{w0:World}{E:Exit->Act->World->Prop}{df:List Deferred}(hQ:∀y tv m w a,y.X=X'->St F y tm' tv m w a->bP m0 x0.s w0 m y.s w->Ke n0 x0 y->n0<=y.X.nx->a.defers=df->E .normal a w):
  ∀(fuel:Nat)(aG:Array Bool)(a:Act)(w:World)(m:Nm)(tm:List U)(tv:List Value)(x:Cx)(p:Nat),p<=rs.length->(∀(e:Nat)(r:dQ),rs[e]? = some r->r.act=true->(aG.getD e false=true↔e<p))->aG.size=a9.size->aG.toList.count false=fuel->
   Closed a9.toList (fun k=>aG.getD k false=true)->IY tm₀ rs (fun k=>aG.getD k false=true) tm->(∃al∈lJ,¬ aG.getD al.i false=true)->
   x.X.nx=X1.nx->(∀al∈lJ,gt x.X.h al.k=if aG.getD al.i false=true then gt (eV rs X' p).h al.k else none)->(∀j,(∀al∈lJ,al.k≠j)->gt x.X.h j=gt Xb.h j)->
   St F x tm tv m w a->bP m0 x0.s w0 m x.s w->Ke n0 x0 x->a.defers=df->
   wpAnyIn (oM ro) 0 P .any a9 E fuel aG a w:=by
 have hn:rs.length=a9.size:=by simpa using fV.len
 intro fuel;induction fuel with
 |zero=>
  intro aG a w m tm tv x p hp iS dR KG eR iR DE jM dA FY fM aT eI iW;exfalso;obtain⟨al,hm,hu⟩:=DE;obtain⟨r,d,h1,_⟩:=eS.at_ al hm;have aE:=(zG.1 h1).1;have rZ:al.i<aG.size:=by omega
  have:aG[al.i]≠false:=fun hf=>by
   have hm:false∈aG.toList:=by rw[<-hf];simp
   have:=List.count_pos_iff.2 hm;omega
  have this':aG[al.i]=true:=by simpa using this
  exact hu (by simp[Array.getD,rZ,this'])
 |succ fuel ih=>
  intro aG a w m tm tv x p hp iS dR KG eR iR DE jM dA FY fM aT eI iW;have mem_ready:∀i,i∈Region.ready .any a9 aG↔i<a9.size/\aG.getD i true=false/\∃o,a9[i]? = some o/\∀e∈o.after.toList,Region.binds .any e=true->aG.getD e.on false=true:=by
   intro i;unfold Region.ready;rw[List.mem_filter,List.mem_range];refine and_congr_right fun hi=>?_;have ho:a9[i]? = some a9[i]:=by simp[hi]
   simp only[ho,zM,Option.getD_some,Bool.and_eq_true,Bool.not_eq_true',Array.all_eq_true_iff_forall_mem,Bool.or_eq_true];refine and_congr_right fun _=>?_;constructor;intro h;refine⟨_,rfl,fun e he hb=>?_⟩;rcases h e (by simpa using he)with h1 |h1
   simp[hb]at h1;exact h1;rintro⟨o,Bh,h⟩ e he;cases Bh;rcases hb:Region.binds .any e with _|_;exact .inl rfl;exact .inr (h e (by simpa using he) hb)
  refine⟨fun Bk=>?_,fun i hi=>?_⟩;exfalso;have A5:∃i,i<a9.size/\aG.getD i true=false:=by
   have fC:0<aG.toList.count false:=by omega
   obtain⟨i,hi,e⟩:=List.mem_iff_getElem.1 (List.count_pos_iff.1 fC);simp at hi;refine⟨i,by omega,?_⟩;simp only[Array.getElem_toList]at e;simp[Array.getD,hi,e]
  have nJ:∀n,n<a9.size->aG.getD n true=false->False:=by
   intro n;induction n using Nat.strongRecOn with
   |_ n ihn=>
    intro UF Bn;have:n∈Region.ready .any a9 aG:=(mem_ready n).2 ⟨UF,Bn,a9[n],by simp[UF],fun e he hb=>by
     have aE:=qo bY (i:=n) (o:=a9[n]) (by simp[UF]) e he hb;have rZ:e.on<aG.size:=by omega
     cases hv:aG[e.on]with|true=>simp[Array.getD,rZ,hv]|false=>exact(ihn e.on aE (by omega) (by simp[Array.getD,rZ,hv])).elim⟩
    rw[Bk]at this;cases this
  obtain⟨i,h1,h2⟩:=A5;exact nJ i h1 h2
  ·obtain⟨D?,N7,o,ho,CC⟩:=(mem_ready i).1 hi;have wV:i<aG.size:=by omega
   have NB:¬ aG.getD i false=true:=by simp[Array.getD,wV]at N7 ⊢;exact N7
   have y3:a9.toList[i]? = some o:=by simpa using ho
   obtain⟨r,hr,kH⟩:=za2 a9 fV y3;subst kH;have qC:∀q,a9.toList[i]? = some q->∀e∈q.after.toList,Region.binds .any e=true->aG.getD e.on false=true:=fun q hq=>by rw[y3]at hq;cases hq;exact CC
   have C9:=qpv a9 fV bY eR iR hr NB qC;obtain⟨_,zP,xZ,_⟩:=fV.all i r hr;have j4:∀k,((aG.setIfInBounds i true).getD k false=true)↔(aG.getD k false=true\/k=i):=fun k=>by by_cases hk:k=i;subst hk;simp[Array.getD,wV];by_cases qF:k<aG.size;simp[Array.getD,qF,hk,Ne.symm hk];simp[Array.getD,qF,hk]
   have CE:Closed a9.toList (fun k=>(aG.setIfInBounds i true).getD k false=true):=fun k q hk hq e he hb=>by refine(j4 e.on).2 (.inl ?_);rcases(j4 k).1 hk with hk |rfl;exact eR k q hk hq e he hb;exact qC q hq e he hb
   have nH:IY tm₀ rs (fun k=>(aG.setIfInBounds i true).getD k false=true) (dW tm r.o.dst r.u):=by have:=im a9 fV bY iR hr;exact⟨this.len,fun k q d a b c hL=>this.yes k q d a b c ((j4 k).1 hL),fun k q d a b hL=>this.no k q d a b fun x=>hL ((j4 k).2 x),this.other⟩
   have tK:(aG.setIfInBounds i true).toList.count false=fuel:=by
    have hv:aG[i]=false:=by simpa[Array.getD,wV]using N7
    rw[Array.toList_setIfInBounds,List.count_set (by simpa using wV)];have Cd:Array.count false aG=fuel+1:=by simpa using KG
    simp[hv];omega
   obtain⟨pL,N2⟩:=z9p C9;have notall:¬ (∀al∈lJ,Pre a9.toList i al.i):=fun h=>by obtain⟨al,hm,hu⟩:=DE;exact hu (SM bY eR qC (h al hm))
   by_cases nL:r.act=true;rcases eS.acts i r hr nL with h |⟨K,q,q',e,hL⟩;exact absurd h notall;obtain⟨alK,Ki,Kk⟩:=hL.name;have Vn:p<=i:=by rcases Nat.lt_or_ge i p with h |h;exact absurd ((iS i r hr nL).2 h) NB;exact h
   have E?:i<rs.length:=(zG.1 hr).1;have tL:∀(e:Nat)(q:dQ),p<=e->e<i->rs[e]? = some q->q.act=false:=fun e q h1 h2 h3=>by rcases hb:q.act with _|_;rfl;have:=SM bY eR qC (DQ.acts i e r q hr h3 nL hb h2);have:=(iS e q h3 hb).1 this;omega
   have U9:eV rs X' i=r.s:=by simp[eV,hr]
   have Kg:eV rs X' p=r.s:=(YD a9 fV Vn (by omega) tL).trans U9;have hKl:aG.getD alK.i false=true:=by rcases hL.pre alK Ki with h |h;exact SM bY eR qC h;exact absurd Kk h.1
   have hgK:gt x.X.h K=some (.row q e):=by have:=dA alK Ki;rw[if_pos hKl,Kk,Kg,hL.row]at this;exact this
   have lQ:bM T x.X tm r.o.op=some (r.u,⟨ug x.X.h K (.row q' e),x.X.nx⟩):=by rw[YL pL];exact hL.run _ hgK
   unfold wpOpIn;simp only[ho];rw[Pg (fM.act m (aM.refl _ _)) a9 r.o,vT fM.e (N2.trans hL.want)];simp only[if_true];refine AT (O8 lQ) (fM.op hT r.o lQ fun y cX aH w₁ bC e1 cR bO d7 mG fD=>?_);have wW:∀al∈lJ,((aG.setIfInBounds i true).getD al.i false=true)↔aG.getD al.i false=true:=fun al hm=>by
    have:al.i≠i:=fun h=>by obtain⟨q,d,q1,_,q3,_⟩:=eS.at_ al hm;rw[h,hr]at q1;cases q1;rw[nL]at q3;cases q3
    rw[j4];simp[this]
   refine ih _ _ _ aH _ cX y (i+1) (by omega) (fun e' q1 hq FW=>?_) (by simpa using dR) tK CE nH ?_ (by rw[e1];exact jM) (fun al hm=>?_) (fun j hj=>?_) cR (aT.trans bO) (eI.trans (d7.le (by rw[jM];have:=eS.le;omega))) (fD.trans iW);rw[j4];by_cases hei:e'=i;subst hei;simp;simp only[hei,or_false];constructor;intro Ch;have:=(iS e' q1 hq FW).1 Ch;omega;intro aE;exact SM bY eR qC (DQ.acts i e' r q1 hr hq nL FW (by omega));obtain⟨al,hm,hu⟩:=DE;exact⟨al,hm,fun h=>hu ((wW al hm).1 h)⟩;rw[e1,xZ,hL.out];by_cases hl:aG.getD al.i false=true;rw[if_pos ((wW al hm).2 hl)];show gt (ug x.X.h K _) al.k=gt (ug r.s.h K _) al.k;rw[BK,BK,hgK,hL.row,dA al hm,if_pos hl,Kg];rw[if_neg (fun h=>hl ((wW al hm).1 h))];show gt (ug x.X.h K _) al.k=_;rw[BK];have cZ:K≠al.k:=fun h=>by have:=eS.nodup alK Ki al hm (Kk.trans h);rw[<-this]at hl;exact hl hKl
   rw[if_neg cZ,dA al hm,if_neg hl];rw[e1];show gt (ug x.X.h K _) j=_;rw[BK,if_neg (fun h=>hj alK Ki (Kk.trans h)),FY j hj];have noact:r.act=false:=by simpa using nL
   have CF:∀(e:Nat)(q:dQ),rs[e]? = some q->q.act=true->((aG.setIfInBounds i true).getD e false=true↔e<p):=fun e q hq FW=>by rw[j4];by_cases hei:e=i;subst hei;rw[hr]at hq;cases hq;rw[noact]at FW;cases FW;simp only[hei,or_false];exact iS e q hq FW
   have stay:r.mv=false->∀y cX aH w₁ bC,y.X=x.X->St F y (dW tm r.o.dst r.u) cX aH w₁ bC->bP m0 x0.s w0 aH y.s w₁->Ke n0 x0 y->bC.defers=df->wpAnyIn (oM ro) 0 P .any a9 E fuel (aG.setIfInBounds i true) bC w₁:=fun N5 y cX aH w₁ bC h1 h2 h3 h4 h6=>by
    have cZ:∀al∈lJ,al.i≠i:=fun al hm h=>by obtain⟨q,d,q1,_,_,q2,_⟩:=eS.at_ al hm;rw[h,hr]at q1;cases q1;rw[N5]at q2;cases q2
    have wW:∀al∈lJ,((aG.setIfInBounds i true).getD al.i false=true)↔aG.getD al.i false=true:=fun al hm=>by rw[j4];simp[cZ al hm]
    refine ih _ _ _ aH _ cX y p hp CF (by simpa using dR) tK CE nH ?_ (by rw[h1];exact jM) (fun al hm=>?_) (by rw[h1];exact FY) h2 h3 h4 h6;obtain⟨al,hm,hu⟩:=DE;exact⟨al,hm,fun h=>hu ((wW al hm).1 h)⟩;rw[h1,dA al hm];by_cases hL:aG.getD al.i false=true;rw[if_pos hL,if_pos ((wW al hm).2 hL)];rw[if_neg hL,if_neg fun h=>hL ((wW al hm).1 h)]
   have mF:qd ⟨Xb.h,X1.nx⟩ x.X:=fun k b hb=>by rw[FY k fun al hm h=>?_];exact hb;have:=(Q7 k b hb).1;have:=(eS.names al hm).1;omega
   unfold wpOpIn;simp only[ho];rw[Pg (fM.act m (aM.refl _ _)) a9 r.o];cases N5:r.mv with
   |true=>
    obtain⟨al,hm,jA⟩:=eS.all i r hr noact N5;obtain⟨q,d,q1,q2,q3,q4,q5,q6,q7⟩:=eS.at_ al hm;rw[jA,hr]at q1;cases q1;have r2:=eS.row al hm;have hw:cJ a9.toList tm r.o=some true:=by unfold cJ;rw[q6]
    rw[vT fM.e hw];simp only[if_true];have lQ:CT P T tm r.o.op al:=q5.congr pL;refine AT lQ.nd (fM.mkA hT r.o lQ fun y cX aH w₁ bC e1 cR bO d7 mG fD=>?_);have Bj:∀(e:Nat)(q:dQ),rs[e]? = some q->q.act=true->e<p->¬ Pre a9.toList e al.i:=fun e q h1 h2 h3 h4=>by have:=Hg bY eR e al.i ((iS e q h1 h2).2 h3) h4;simp only[jA]at this;exact NB this
    obtain⟨F1,F2,F3,F4⟩:=Dh a9 fV eS Q7 hm p hp Bj;have oA:∀j b,gt x.X.h j=some b->BelB al.k b:=fun j b hb=>by
     by_cases hj:∀al∈lJ,al.k≠j;rw[FY j hj,<-F3 j hj]at hb;exact F2 j b hb;have:∃al∈lJ,al.k=j:=by apply Classical.byContradiction;intro hc;exact hj fun al hm h=>hc ⟨al,hm,h⟩
     obtain⟨al',dJ,rfl⟩:=this;rw[dA al' dJ]at hb;split at hb;exact F2 _ b hb;cases hb
    have Wc:gt x.X.h al.k=none:=by rw[dA al hm,if_neg (by rw[jA];exact NB)]
    obtain⟨y',z1,z2,z3,z4,z5,z6,z7⟩:=z4b (F:=F) (nx0:=al.k) (k:=al.k) e1 cR.h cR.fr (zF _) (by rw[jM];exact(eS.names al hm).2) Wc (fun j b hb=>(fM.h.ok j b hb).1) r2 oA;have b7:tm.length=tm₀.length:=iR.len;have Bc:bF y' (dW tm r.o.dst r.u) cX:=by
     have he:=cR.e;rw[q7]at he ⊢;simp only[dW]at he ⊢;refine bF.mk' (by have:=he.2;simpa using this) fun t u hu=>?_;by_cases ht:t=d;subst ht;have DF:t<tm.length:=by have:=(zG.1 hu).1;simpa using this
     rw[List.getElem?_set_self DF]at hu;obtain⟨v,v1,v2⟩:=he.get (i:=t) (u:=rF al.o x.X.nx) (by rw[List.getElem?_set_self DF]);cases hu;rw[q2];exact⟨v,v1,z6 _ v v2⟩;rw[List.getElem?_set_ne (fun h=>ht h.symm)]at hu;obtain⟨v,v1,v2⟩:=he.get (i:=t) (u:=u) (by rw[List.getElem?_set_ne (fun h=>ht h.symm)];exact hu);refine⟨v,v1,?_⟩;have kZ:tm₀[t]? = some u->aD y' u v:=fun h=>z5 u v (bB.le (eS.names al hm).1 u ((F7 _ _).1 Wy u (zX h))) v2;by_cases eE:∀(k:Nat)(q:dQ),rs[k]? = some q->q.o.dst≠some t;rw[iR.other t eE]at hu;exact kZ hu;have:∃(k:Nat)(q:dQ),rs[k]? = some q/\q.o.dst=some t:=by apply Classical.byContradiction;intro hn;exact eE fun k r hr hd=>hn ⟨k,r,hr,hd⟩
     obtain⟨k,q,hq,hd⟩:=this;by_cases hL:aG.getD k false=true;have DF:t<tm₀.length:=by rw[<-b7];exact(zG.1 hu).1
     rw[iR.yes k q t hq hd DF hL]at hu;cases hu;cases ha:q.act with
     |true=>exfalso;rcases eS.acts k q hq ha with h |⟨K,_,_,_,hLc⟩;obtain⟨al',dJ,B4⟩:=DE;exact B4 (Hg bY eR k al'.i hL (h al' dJ));rw[hLc.dst]at hd;cases hd
     |false=>
      cases C8:q.mv with
      |true=>obtain⟨al',dJ,N8⟩:=eS.all k q hq ha C8;obtain⟨q',d',p1,p2,_⟩:=eS.at_ al' dJ;rw[N8,hq]at p1;cases p1;rw[p2]at v2 ⊢;refine z7 _ _ v (fun h=>?_) (by rw[jM];exact(eS.names al' dJ).2) v2;have:=eS.nodup al' dJ al hm h;rw[N8,jA]at this;subst this;exact NB hL
      |false=>rcases eS.early k q hq ha C8 with h |h;exfalso;obtain⟨al',dJ,B4⟩:=DE;exact B4 (Hg bY eR k al'.i hL (h al' dJ));exact z5 _ v (bB.le (eS.names al hm).1 _ h.1) v2
     rw[iR.no k q t hq hd hL]at hu;exact kZ hu
    have RR:St F y' (dW tm r.o.dst r.u) cX aH w₁ bC:=⟨z3,z4,Bc,by rw[z2];exact cR.fits,by rw[z2];exact cR.act⟩;have KB:Ke n0 x0 y':=(eI.trans (d7.le (by rw[jM];have:=eS.le;omega))).trans (z5.le (Nat.le_trans gh (eS.names al hm).1));have d8:bP m0 x0.s w0 aH y'.s w₁:=by rw[z2];exact aT.trans bO
    have Vp:y'.X.nx=X1.nx:=by rw[z1];exact jM
    have UC:∀al'∈lJ,gt y'.X.h al'.k=if(aG.setIfInBounds i true).getD al'.i false=true then gt (eV rs X' p).h al'.k else none:=fun al' dJ=>by
     rw[z1];simp only[dY];by_cases DL:al.k=al'.k;have hii:=eS.nodup al hm al' dJ DL;rw[if_pos DL,if_pos ((j4 _).2 (.inr (by rw[<-hii,jA])))];rw[<-DL];exact F1.symm
     ·rw[if_neg DL,dA al' dJ];have cZ:al'.i≠i:=fun h=>DL (by obtain⟨q',d',p1,p2,_⟩:=eS.at_ al' dJ;rw[h,hr]at p1;cases p1;rw[q2]at p2;cases ho:al.o<;>cases Bh:al'.o<;>rw[ho,Bh]at p2<;>simp only[rF]at p2<;>first |(cases p2;done)|(simp only[U.ptr.injEq,U.sl.injEq]at p2;exact p2.1));have:((aG.setIfInBounds i true).getD al'.i false=true)↔aG.getD al'.i false=true:=by rw[j4];simp[cZ]
      by_cases hL:aG.getD al'.i false=true;rw[if_pos hL,if_pos (this.2 hL)];rw[if_neg hL,if_neg fun h=>hL (this.1 h)]
    have UE:∀j,(∀al∈lJ,al.k≠j)->gt y'.X.h j=gt Xb.h j:=fun j hj=>by rw[z1];simp only[dY];rw[if_neg (hj al hm)];exact FY j hj
    by_cases qD:∃al∈lJ,¬ (aG.setIfInBounds i true).getD al.i false=true;exact ih _ _ _ aH _ cX y' p hp CF (by simpa using dR) tK CE nH qD Vp UC UE RR d8 KB (fD.trans iW)
    ·-- all allocs have come
     have UO:∀al∈lJ,(aG.setIfInBounds i true).getD al.i false=true:=fun al hm=>by apply Classical.byContradiction;intro h;exact qD ⟨al,hm,h⟩
     have CB:∀k,gt (eV rs X' p).h k=gt y'.X.h k:=fun k=>by
      by_cases hj:∀al∈lJ,al.k≠k;rw[F3 k hj,UE k hj];have:∃al∈lJ,al.k=k:=by apply Classical.byContradiction;intro hc;exact hj fun al hm h=>hc ⟨al,hm,h⟩
      obtain⟨al',dJ,rfl⟩:=this;rw[UC al' dJ,if_pos (UO al' dJ)]
     obtain⟨y2,k1,k2,k3,k4,k5,k6⟩:=Gh.same (n0:=n0) (tm:=dW tm r.o.dst r.u) (X:=y'.X) (eV rs X' p).h CB F y' cX rfl RR.h RR.fr RR.e;have Uz:y2.X=eV rs X' p:=by rw[k2,Vp,<-F4]
     have DU:=k1 aH w₁ RR.fits;refine z1p hT a9 fV bY DQ (n0:=n0) (F:=F) (x0:=x0) (m0:=m0) (w0:=w0) (df:=df) hQ fuel (aG.setIfInBounds i true) bC w₁ aH p (dW tm r.o.dst r.u) cX y2 (by simpa using dR) tK CE (fun e q h1 h2 h3=>?_) nH hp CF Uz ⟨k3,k4,k5,DU.fits,RR.act.ext DU.agree DU.nx⟩ (d8.trans DU) (KB.trans k6) (by rw[Uz,F4];have:=eS.le;omega) (fD.trans iW);obtain⟨al',dJ,N8⟩:=eS.all e q h1 h2 h3;rw[<-N8];exact UO al' dJ
   |false=>
    rcases zP with⟨hw,hu,ha,_⟩|⟨hw,nV,hqu⟩|⟨hw,ha,f,args,A9,k9⟩|⟨hw,ha,_,zR⟩|⟨ha,hm,_⟩|⟨hw,ha,_⟩;rw[vT fM.e (N2.trans hw)];simp only[Bool.false_eq_true,if_false];rw[hu]at stay;exact⟨fun _ _=>trivial,stay N5 x _ m w _ rfl (fM.skip r.o.dst) aT eI ((OZ _ _ _).trans iW)⟩;rw[vT fM.e (N2.trans hw)];simp only[if_true];rcases eS.early i r hr noact N5 with h |h;exact absurd h notall;obtain⟨g1,g2⟩:=h.2 hw nV;have lQ:bM T x.X tm r.o.op=some (r.u,x.X):=by rw[YL pL];exact z3z mF g1 g2
    exact AT (O8 lQ) (fM.op hT r.o lQ fun y cX aH w₁ bC e1 cR bO d7 mG fD=>stay N5 y cX aH w₁ bC e1 cR (aT.trans bO) (eI.trans (d7.le (by rw[jM];have:=eS.le;omega))) (fD.trans iW));rw[noact]at ha;cases ha;rw[vT fM.e (N2.trans hw)];simp only[if_true];exact AT (zR.congr pL).nd (fM.free hT r.o (zR.congr pL) fun y cX aH w₁ bC e1 cR bO d7 mG fD=>stay N5 y cX aH w₁ bC e1 cR (aT.trans bO) (eI.trans (d7.le (by rw[jM];have:=eS.le;omega))) (fD.trans iW));rw[N5]at hm;cases hm;rw[noact]at ha;cases ha
end
def Ac(mk K:Nat)(q':List U):List Al->Prop
 |[]=>True|al::r=>(Nat.testBit mk al.i=true\/(al.k≠K/\aL al.k q'))/\Ac mk K q' r
theorem z3y{mk K:Nat}{q':List U}:∀{l:List Al},Ac mk K q' l->∀al∈l,Nat.testBit mk al.i=true\/(al.k≠K/\aL al.k q')
 |[],_,al,h=>by cases h
 |x::r,hl,al,h=>by rcases zI.1 h with rfl |h;exact hl.1;exact z3y hl.2 al h
def RA(P:Program)(T:Tb)(a9:List Oper)(nb:Nat)(Xe:Sg)(qa:List Al):List Oper->List U->Sg->List RK->List Al->(List RK->List U->Sg->Prop)->Prop
 |[],tm,X,aX,q,K=>q=[]/\K aX tm X|o::r,tm,X,aX,q,K=>
  (cJ a9 tm o=some true/\∃u,bM T X tm o.op=some (u,X)/\RA P T a9 nb Xe qa r (dW tm o.dst u) X ((1,⟨tm,o,u,false,false,X,X⟩)::aX) q K)\/ (cJ a9 tm o=some true/\∃u X',bM T X tm o.op=some (u,X')/\RA P T a9 nb Xe qa r (dW tm o.dst u) X' ((3,⟨tm,o,u,true,true,X,X'⟩)::aX) q K)\/ (cJ a9 tm o=some true/\∃f args u,k8 T tm o.op=some (f,args)/\bE P f args X (fun u' X'=>u'=u/\X'=X)/\RA P T a9 nb Xe qa r (dW tm o.dst u) X ((2,⟨tm,o,u,true,false,X,X⟩)::aX) q K)\/ (cJ a9 tm o=some true/\∃f args u X',k8 T tm o.op=some (f,args)/\bE P f args X (fun u' s'=>u'=u/\s'=X')/\RA P T a9 nb Xe qa r (dW tm o.dst u) X' ((3,⟨tm,o,u,true,true,X,X'⟩)::aX) q K)\/ (cJ a9 tm o=some false/\RA P T a9 nb Xe qa r (dW tm o.dst (.tup [])) X ((0,⟨tm,o,.tup [],false,false,X,X⟩)::aX) q K)\/ (cJ a9 tm o=some true/\∃u,AQ P T tm o.op u/\bB nb u/\RA P T a9 nb Xe qa r (dW tm o.dst u) X ((6,⟨tm,o,u,false,false,X,X⟩)::aX) q K)\/ (cJ a9 tm o=some true/\∃u,bM T X tm o.op=some (u,X)/\bM T Xe tm o.op=some (u,Xe)/\XO o.op=true/\bB nb u/\RA P T a9 nb Xe qa r (dW tm o.dst u) X ((5,⟨tm,o,u,false,false,X,X⟩)::aX) q K)\/ (∃al q' d,q=al::q'/\al.i=aX.length/\CT P T tm o.op al/\o.guard=none/\o.dst=some d/\RA P T a9 nb Xe qa r (dW tm o.dst (rF al.o al.k)) X ((4,⟨tm,o,rF al.o al.k,false,true,X,X⟩)::aX) q' K)\/ (cJ a9 tm o=some true/\∃u KK c c' e mk,(cO a9 [])[aX.length]? = some mk/\o.dst=none/\gt X.h KK=some (.row c e)/\(∀ τ:Sg,gt τ.h KK=some (.row c e)->bM T τ tm o.op=some (u,⟨ug τ.h KK (.row c' e),τ.nx⟩))/\(∃al∈qa,al.k=KK)/\Ac mk KK c' qa/\
   RA P T a9 nb Xe qa r (dW tm o.dst u) ⟨ug X.h KK (.row c' e),X.nx⟩ ((7,⟨tm,o,u,true,true,X,⟨ug X.h KK (.row c' e),X.nx⟩⟩)::aX) q K)
structure KA(P:Program)(T:Tb)(a9:List Oper)(nb:Nat)(Xe:Sg)(x:RK):Prop where
 good:Good P T a9 x.2
 sm:x.1≠3->x.1≠7->x.2.s'=x.2.s
 act:x.2.act=true↔(x.1=2\/x.1=3\/x.1=7)
 mv:x.2.act=false->(x.2.mv=true↔x.1=4)
 lk:x.2.act=false->cJ a9 x.2.tm x.2.o=some true->bM T x.2.s x.2.tm x.2.o.op=some (x.2.u,x.2.s')->x.1=1\/x.1=5
 ear:x.2.act=false->x.2.mv=false->x.1=1\/(bB nb x.2.u/\(cJ a9 x.2.tm x.2.o=some true->bM T x.2.s x.2.tm x.2.o.op=some (x.2.u,x.2.s')->XO x.2.o.op=true/\bM T Xe x.2.tm x.2.o.op=some (x.2.u,Xe)))
theorem RZ{P:Program}{T:Tb}{a9:List Oper}{nb:Nat}{Xe:Sg}{qa:List Al}:∀(rest:List Oper)(tm:List U)(X:Sg)(aX:List RK)(q:List Al)(K:List RK->List U->Sg->Prop),RA P T a9 nb Xe qa rest tm X aX q K->
  ∃(ks:List RK)(tm':List U)(X':Sg),K (ks.reverse++aX) tm' X'/\ks.length=rest.length/\eV (ks.map (·.2)) X' 0=X/\sF (ks.map (·.2)) tm' 0=tm/\
   (∀(i:Nat)(x:RK),ks[i]? = some x->rest[i]? = some x.2.o/\KA P T a9 nb Xe x/\eV (ks.map (·.2)) X' (i+1)=x.2.s'/\sF (ks.map (·.2)) tm' (i+1)=dW x.2.tm x.2.o.dst x.2.u)/\
   (∀(i:Nat)(x:RK),ks[i]? = some x->x.1=7->∃KK c c' e,Loc T a9 qa (aX.length+i) x.2 KK c c' e)/\
   (∀(i:Nat)(x:RK),ks[i]? = some x->x.1=4->∃al∈q,al.i=aX.length+i)/\
   (∀al∈q,∃(i:Nat)(x:RK)(d:Tmp),al.i=aX.length+i/\ks[i]? = some x/\x.1=4/\x.2.u=rF al.o al.k/\CT P T x.2.tm x.2.o.op al/\x.2.o.guard=none/\x.2.o.dst=some d)
 |[],tm,X,aX,q,K,h=>by obtain⟨rfl,h⟩:=h;exact⟨[],tm,X,h,rfl,rfl,rfl,fun i x hx=>by simp at hx,fun i x hx=>by simp at hx,fun i x hx=>by simp at hx,fun al h=>by cases h⟩
 |o::rest,tm,X,aX,q,K,h=>by
  have step:∀(k:Nat)(u:U)(ac mv:Bool)(X1:Sg)(q':List Al),RA P T a9 nb Xe qa rest (dW tm o.dst u) X1 ((k,⟨tm,o,u,ac,mv,X,X1⟩)::aX) q' K->KA P T a9 nb Xe (k,⟨tm,o,u,ac,mv,X,X1⟩)->
    (k=7->∃KK c c' e,Loc T a9 qa aX.length ⟨tm,o,u,ac,mv,X,X1⟩ KK c c' e)->
    (k≠4/\q=q'\/∃al d,q=al::q'/\al.i=aX.length/\k=4/\u=rF al.o al.k/\CT P T tm o.op al/\o.guard=none/\o.dst=some d)->
    ∃(ks:List RK)(tm':List U)(X':Sg),K (ks.reverse++aX) tm' X'/\ks.length=(o::rest).length/\eV (ks.map (·.2)) X' 0=X/\sF (ks.map (·.2)) tm' 0=tm/\
     (∀(i:Nat)(x:RK),ks[i]? = some x->(o::rest)[i]? = some x.2.o/\KA P T a9 nb Xe x/\eV (ks.map (·.2)) X' (i+1)=x.2.s'/\sF (ks.map (·.2)) tm' (i+1)=dW x.2.tm x.2.o.dst x.2.u)/\
     (∀(i:Nat)(x:RK),ks[i]? = some x->x.1=7->∃KK c c' e,Loc T a9 qa (aX.length+i) x.2 KK c c' e)/\
     (∀(i:Nat)(x:RK),ks[i]? = some x->x.1=4->∃al∈q,al.i=aX.length+i)/\
     (∀al∈q,∃(i:Nat)(x:RK)(d:Tmp),al.i=aX.length+i/\ks[i]? = some x/\x.1=4/\x.2.u=rF al.o al.k/\CT P T x.2.tm x.2.o.op al/\x.2.o.guard=none/\x.2.o.dst=some d):=by
   intro k u ac mv X1 q' h hk v? hq;obtain⟨ks,tm',X',g1,g2,g3,g4,g5,g9,g6,g7⟩:=RZ rest _ _ _ _ _ h;refine⟨(k,⟨tm,o,u,ac,mv,X,X1⟩)::ks,tm',X',by simpa using g1,by simp[g2],rfl,rfl,fun i x hx=>?_,fun i x hx h7=>?_,fun i x hx h4=>?_,fun al eS=>?_⟩;cases i with
   |zero=>simp at hx;subst hx;refine⟨rfl,hk,?_,?_⟩;simp only[eV,zQ,zH];exact g3;simp only[sF,zQ,zH];exact g4|succ i=>simp only[zH]at hx;obtain⟨k1,k2,k3,k4⟩:=g5 i x hx;refine⟨by simpa using k1,k2,?_,?_⟩;simp only[eV,zQ,zH];exact k3;simp only[sF,zQ,zH];exact k4
   cases i with
   |zero=>simp at hx;subst hx;exact v? h7|succ i=>
    simp only[zH]at hx;have:=g9 i x hx h7;have e:((k,(⟨tm,o,u,ac,mv,X,X1⟩:dQ))::aX).length+i=aX.length+(i+1):=by simp;omega
    rwa [e]at this
   cases i with
   |zero=>simp at hx;subst hx;rcases hq with⟨cZ,_⟩|⟨al,d,rfl,hi,_⟩;exact absurd h4 cZ;exact⟨al,by simp,by omega⟩
   |succ i=>simp only[zH]at hx;obtain⟨al,h1,h2⟩:=g6 i x hx h4;refine⟨al,?_,by simp at h2;omega⟩;rcases hq with⟨_,rfl⟩|⟨al',d,rfl,_⟩;exact h1;exact List.mem_cons_of_mem _ h1
   have later:al∈q'->∃(i:Nat)(x:RK)(d:Tmp),al.i=aX.length+i/\((k,(⟨tm,o,u,ac,mv,X,X1⟩:dQ))::ks)[i]? = some x/\x.1=4/\x.2.u=rF al.o al.k/\CT P T x.2.tm x.2.o.op al/\x.2.o.guard=none/\x.2.o.dst=some d:=fun hm=>by obtain⟨i,x,d,h1,h2,h3⟩:=g7 al hm;exact⟨i+1,x,d,by simp at h1;omega,by simpa using h2,h3⟩
   rcases hq with⟨_,rfl⟩|⟨al',d,rfl,hi,hk4,hu,ho,hg,hd⟩;exact later eS;rcases zI.1 eS with rfl |eS;exact⟨0,_,d,by omega,rfl,hk4,hu,ho,hg,hd⟩;exact later eS
  simp only[RA]at h;rcases h with⟨hw,u,h1,h2⟩|⟨hw,u,X1,h1,h2⟩|⟨hw,f,args,u,h1,h2,h3⟩|⟨hw,f,args,u,X1,h1,h2,h3⟩|⟨hw,h1⟩|⟨hw,u,h1,hb,h3⟩|⟨hw,u,h1,h2,h3,hb,h4⟩|⟨al,q',d,hq,hi,ho,hg,hd,h1⟩|⟨hw,u,KK,c,c',e,mk,s?,hd,hg,cW,p?,hlp,h1⟩;exact step 1 u false false X q h2 ⟨.inr (.inl ⟨hw,h1,fun _=>rfl⟩),fun _ _=>rfl,by simp,by simp,fun _ _ _=>.inl rfl,fun _ _=>.inl rfl⟩ (fun h=>by omega) (.inl ⟨by omega,rfl⟩);exact step 3 u true true X1 q h2 ⟨.inr (.inl ⟨hw,h1,by simp⟩),by simp,by simp,by simp,by simp,by simp⟩ (fun h=>by omega) (.inl ⟨by omega,rfl⟩);exact step 2 u true false X q h3 ⟨.inr (.inr (.inl ⟨hw,rfl,f,args,h1,h2⟩)),fun _ _=>rfl,by simp,by simp,by simp,by simp⟩ (fun h=>by omega) (.inl ⟨by omega,rfl⟩);exact step 3 u true true X1 q h3 ⟨.inr (.inr (.inl ⟨hw,rfl,f,args,h1,h2⟩)),by simp,by simp,by simp,by simp,by simp⟩ (fun h=>by omega) (.inl ⟨by omega,rfl⟩);exact step 0 _ false false X q h1 ⟨.inl ⟨hw,rfl,rfl,rfl⟩,fun _ _=>rfl,by simp,by simp,(fun _ h=>by rw[hw]at h;cases h),fun _ _=>.inr ⟨by simp[bB,aL],fun h=>by rw[hw]at h;cases h⟩⟩ (fun h=>by omega) (.inl ⟨by omega,rfl⟩);exact step 6 u false false X q h3 ⟨.inr (.inr (.inr (.inl ⟨hw,rfl,rfl,h1⟩))),fun _ _=>rfl,by simp,by simp,(fun _ _ h=>absurd h (h1.noop _)),fun _ _=>.inr ⟨hb,fun _ h=>absurd h (h1.noop _)⟩⟩ (fun h=>by omega) (.inl ⟨by omega,rfl⟩);exact step 5 u false false X q h4 ⟨.inr (.inl ⟨hw,h1,fun _=>rfl⟩),fun _ _=>rfl,by simp,by simp,fun _ _ _=>.inr rfl,fun _ _=>.inr ⟨hb,fun _ _=>⟨h3,h2⟩⟩⟩ (fun h=>by omega) (.inl ⟨by omega,rfl⟩);exact step 4 _ false true X q' h1 ⟨.inr (.inr (.inr (.inr (.inl ⟨rfl,rfl,rfl⟩)))),fun _ _=>rfl,by simp,by simp,(fun _ _ h=>(ho.ne h).elim),by simp⟩ (fun h=>by omega) (.inr ⟨al,d,hq,hi,rfl,rfl,ho,hg,hd⟩);exact step 7 u true true _ q h1 ⟨.inr (.inl ⟨hw,cW X hg,by simp⟩),by simp,by simp,by simp,by simp,by simp⟩ (fun _=>⟨KK,c,c',e,⟨p?,hg,rfl,hd,cW,fun al hm=>by rcases z3y hlp al hm with h |h;exact .inl ⟨mk,s?,h⟩;exact .inr h,hw⟩⟩) (.inl ⟨by omega,rfl⟩)
def kf(k:Nat):Nat:=cond (Nat.beq k 4) 0 (cond (Nat.beq k 5) 1 (cond (Nat.beq k 6) 0 (cond (Nat.beq k 7) 3 k)))
def TO(ai:List Nat)(m:Nat):Bool:=ai.all fun i=>Nat.testBit m i
def Ey(ai:List Nat):List Nat->List Nat->Bool
 |k::ks,m::ms=>cond (Nat.ble 1 k) (cond (Nat.ble k 3) (TO ai m) true) true&&Ey ai ks ms|[],_=>true
 |_::_,[]=>false
theorem qyd{ai:List Nat}:∀{ks ms:List Nat},Ey ai ks ms=true->∀{i k:Nat},ks[i]? = some k->1<=k->k<=3->∃m,ms[i]? = some m/\∀a∈ai,m.testBit a=true
 |[],ms,_,i,k,hk,_,_=>by simp at hk
 |_::_,[],h,_,_,_,_,_=>by simp[Ey]at h
 |k0::ks,m0::ms,h,i,k,hk,h1,h3=>by
  simp only[Ey,Bool.and_eq_true]at h;cases i with
  |zero=>
   simp at hk;subst hk;have a1:Nat.ble 1 k0=true:=by rw[Nat.ble_eq];exact h1
   have a2:Nat.ble k0 3=true:=by rw[Nat.ble_eq];exact h3
   have:=h.1;rw[a1,a2]at this;simp only[zC,TO,List.all_eq_true]at this;exact⟨m0,rfl,this⟩
  |succ i=>simp only[zH]at hk ⊢;exact qyd h.2 hk h1 h3
section
variable{P:Program}{T:Tb}
theorem Du {a9 : Array Oper} {nb : Nat} {Xe : Sg} {tm : List U} {X : Sg} {ks : List RK} {tm' : List U} {X' : Sg} {pr : List (Nat × Nat)} (bY : MI a9.toList = true) (fV : Kx P T a9.toList tm X (ks.map (·.2)) tm' X')
    (DL : ∀(i:Nat)(x:RK),ks[i]? = some x->KA P T a9.toList nb Xe x) (A3:Zh a9.toList (ks.map fun x=> kf x.1) pr=true) (v6:Y7 T ks pr):qj T a9.toList (ks.map (·.2)):=by
  have b7:(ks.map (·.2)).length=a9.toList.length:=fV.len;have same : ∀(p q:Nat),p<=q->q<=ks.length->(∀(e:Nat)(x:RK),p<=e->e<q->ks[e]? = some x->x.1≠3/\x.1≠7)->eV (ks.map (·.2)) X' p=eV (ks.map (·.2)) X' q:=by
    intro p q HH hq eE;induction q with
    | zero => have : p = 0 := by omega
              rw[this]
    |succ q ih=>
      rcases Nat.lt_or_ge q p with h |h;have:p=q+1:=by omega
      rw[this];rw[ih h (by omega) fun e r h1 h2 h3=> eE e r h1 (by omega) h3];have hr:ks[q]? = some ks[q]:=by simp[show q<ks.length by omega]
      have UD:(ks.map (·.2))[q]? = some ks[q].2:=by simp[hr]
      have k3:=(fV.all q _ UD).2.2.1;rw[k3,(DL q _ hr).sm (eE q _ h (zN _) hr).1 (eE q _ h (zN _) hr).2];simp[eV,UD]
  have at_ : ∀(i:Nat)(r:dQ),(ks.map (·.2))[i]? = some r->∃k,ks[i]? = some (k,r):=by intro i r hr;simp only[List.getElem?_map]at hr;rcases hk:ks[i]? with _|x;rw[hk]at hr;simp at hr;obtain⟨k,r'⟩:=x;rw[hk]at hr;simp at hr;subst hr;exact⟨k,rfl⟩
  have trp : ∀(i k:Nat)(r:dQ),ks[i]? = some (k,r)->∃m,(cO a9.toList [])[i]? = some m/\(trip 0 (ks.map fun x=> kf x.1) (cO a9.toList []))[i]? = some (kf k,m,kT ((ks.map fun x=> kf x.1).take i)):=by
    intro i k r hk;obtain⟨m1,_,_⟩:=jd a9.toList [];have hi:i<a9.toList.length:=by rw[<-b7];simp only[yA];exact(zG.1 hk).1
    have hm:i<(cO a9.toList []).length:=by rw[m1];simpa using hi
    refine⟨(cO a9.toList [])[i],by simp[hm], ?_⟩;have:=Y' (ks.map fun x=> kf x.1) (cO a9.toList []) 0 i (kf k) _ (by simp[hk]) (show(cO a9.toList [])[i]? = some (cO a9.toList [])[i] by simp[hm])
    rwa [Nat.zero_add]at this
  have chk : ∀ (i k ki kk : Nat) (r q : dQ), ks[i]? = some (ki, r) -> ks[k]? = some (kk, q) -> ∃ mi mk, (cO a9.toList [])[i]? = some mi /\ (cO a9.toList [])[k]? = some mk /\
      PQ pr i (kf ki,mi,kT ((ks.map fun x=> kf x.1).take i)) k (kf kk,mk,kT ((ks.map fun x=> kf x.1).take k))=true:=by
    intro i k ki kk r q hi hk;obtain⟨mi,e1,e2⟩:=trp i ki r hi;obtain⟨mk,e3,e4⟩:=trp k kk q hk;refine⟨mi,mk,e1,e3, ?_⟩;have h1:=Oj A3 e2;have h2:=Oj h1 e4;simpa using h2
  have nomv : ∀(p q:Nat),p<=q->q<=ks.length->kT ((ks.map fun x=> kf x.1).take p)=kT ((ks.map fun x=> kf x.1).take q)->eV (ks.map (·.2)) X' p=eV (ks.map (·.2)) X' q:=by intro p q HH hq hc;refine same p q HH hq fun e x h1 h2 h3=> ?_;have:=qxw HH (by simp;omega) hc e (kf x.1) h1 h2 (by simp[h3]);exact⟨fun h4=> this (by rw[h4];rfl),fun h4=> this (by rw[h4];rfl)⟩
  have kact : ∀(i:Nat)(r:dQ),(ks.map (·.2))[i]? = some r->r.act=true->∃k,ks[i]? = some (k,r)/\Nat.ble 2 (kf k)=true/\(k=2\/k=3\/k=7):=by intro i r hr ha;obtain⟨k,hk⟩:=at_ i r hr;have:=(DL i _ hk).act.1 ha;refine⟨k,hk, ?_,this⟩;rcases this with h |h |h<;>(simp only[]at h;subst h;rfl)
  have kqu : ∀(i:Nat)(r:dQ),(ks.map (·.2))[i]? = some r->r.act=false->cJ a9.toList r.tm r.o=some true->bM T r.s r.tm r.o.op=some (r.u,r.s')->∃k,ks[i]? = some (k,r)/\kf k=1:=by intro i r hr ha hw hl;obtain⟨k,hk⟩:=at_ i r hr;refine⟨k,hk, ?_⟩;rcases(DL i _ hk).lk ha hw hl with h |h<;>(simp only[]at h;subst h;rfl)
  have succ : ∀(l:List Nat)(a k:Nat),l[a]? = some k->kT (l.take (a+1))=kT (l.take a)+Aq k:=by
    intro l;induction l with
    |nil=> intro a k h;simp at h|cons x l ih=>
      intro a k h;cases a with
      |zero=> simp at h;subst h;simp[kT]|succ a=> simp only[zH]at h;simp only[List.take_succ_cons,kT];rw[ih a k h];omega
  have xB:Nat.ble 2 1=false:=rfl;have qX:Nat.beq 1 1=true:=rfl;refine⟨fun i k r q hr hq ha hb aE=> ?_,fun i k r q hr hq ha hw hl hb aE=> ?_,fun i k r q hr hq ha hw hl hb aE=> ?_⟩;obtain⟨ki,h1,h2,_⟩:=kact i r hr ha;obtain⟨kk,h3,h4,_⟩:=kact k q hq hb;obtain⟨mi,mk,e1,e2,e3⟩:=chk i k ki kk r q h1 h3;simp only[PQ,h2,h4,zC,oQ aE]at e3;exact⟨mi,e1,e3⟩;obtain⟨ki,h1,Bt⟩:=kqu i r hr ha hw hl;obtain⟨kk,h3,h4,_⟩:=kact k q hq hb;obtain⟨mi,mk,e1,e2,e3⟩:=chk i k ki kk r q h1 h3;simp only[PQ,Bt,xB,qX,h4,zC,zD,oQ aE,Bool.or_eq_true]at e3;rcases e3 with e3 |e3 |e3;exact .inl ⟨mi,e1,e3⟩;have:=nomv k i (by omega) (by have:=(zG.1 h1).1;omega) (Nat.eq_of_beq_eq_true e3);exact .inr (.inl (by simpa[eV,h1,h3]using this));have:=Qu v6 _ (Og e3);simp only[Fq,iZ,h1,h3,oQ aE,zC]at this;exact .inr (.inr this);obtain⟨ki,h1,Bt⟩:=kqu i r hr ha hw hl;obtain⟨kk,h3,h4,_⟩:=kact k q hq hb;obtain⟨mi,mk,e1,e2,e3⟩:=chk i k ki kk r q h1 h3;simp only[PQ,Bt,xB,qX,h4,zC,zD,H8 (show ¬ k<i by omega),Bool.or_eq_true]at e3;rcases e3 with e3 |e3 |e3;exact .inl ⟨mk,e2,e3⟩;have hc:kT ((ks.map fun x=> kf x.1).take i)=kT ((ks.map fun x=> kf x.1).take (k+1)):=by rw[succ _ k (kf kk) (by simp[h3])];exact Nat.eq_of_beq_eq_true e3
  have:=nomv i (k+1) (by omega) (by have:=(zG.1 h3).1;omega) hc;have h2:=(fV.all k q hq).2.2.1;rw[h2]at this;exact .inr (.inl (by simpa[eV,h1]using this.symm));have:=Qu v6 _ (Og e3);simp only[Fq,iZ,h1,h3,H8 (show ¬ k<i by omega),zD]at this;exact .inr (.inr this)
end
def ER:Sg->List (Nat×Option Nat×List U×TypeId)->Sg
 |X,[]=>X|X,x::r=>ER (newU X (.row x.2.2.1 x.2.2.2)) r
def xQ:Nat->List (Nat×Option Nat×List U×TypeId)->List Al
 |_,[]=>[]|n,x::r=>⟨x.1,n,x.2.1,x.2.2.1,x.2.2.2⟩::xQ (n+1) r
theorem Gn:∀(L:List (Nat×Option Nat×List U×TypeId))(X:Sg),(ER X L).nx=X.nx+L.length
 |[],X=>rfl|x::r,X=>by simp only[ER,Gn r,newU,zO];omega
theorem Ga:∀{L:List (Nat×Option Nat×List U×TypeId)}{n:Nat}{al:Al},al∈xQ n L->n<=al.k/\al.k<n+L.length
 |[],n,al,h=>by cases h
 |x::r,n,al,h=>by rcases zI.1 h with rfl |h;simp;have:=Ga h;simp only[zO];omega
theorem z1n:∀{L:List (Nat×Option Nat×List U×TypeId)}{n:Nat}{a b:Al},a∈xQ n L->b∈xQ n L->a.k=b.k->a=b
 |[],n,a,b,h,_,_=>by cases h
 |x::r,n,a,b,ha,hb,hk=>by rcases zI.1 ha with rfl |ha;rcases zI.1 hb with rfl |hb;rfl;have:=Ga hb;simp only at hk;omega;rcases zI.1 hb with rfl |hb;have:=Ga ha;simp only at hk;omega;exact z1n ha hb hk
theorem ie:∀(L:List (Nat×Option Nat×List U×TypeId))(X:Sg){j:Nat},(∀al∈xQ X.nx L,al.k≠j)->gt (ER X L).h j=gt X.h j
 |[],X,j,_=>rfl|x::r,X,j,hj=>by have h1:=hj ⟨x.1,X.nx,x.2.1,x.2.2.1,x.2.2.2⟩ (by simp[xQ]);simp only[ER];rw[ie r (newU X (.row x.2.2.1 x.2.2.2)) fun al hm=>hj al (by simp only[xQ,zI];exact .inr hm)];simp only[newU,dY];rw[if_neg h1]
theorem qxj:∀{L:List (Nat×Option Nat×List U×TypeId)}{X:Sg}{al:Al},al∈xQ X.nx L->gt (ER X L).h al.k=some (.row al.l al.e)
 |[],X,al,h=>by cases h
 |x::r,X,al,h=>by rcases zI.1 h with rfl |h;simp only[ER];rw[ie r (newU X (.row x.2.2.1 x.2.2.2)) fun al hm=>?_];simp[newU,dY];have:=Ga hm;simp only[newU]at this;omega;exact qxj (X:=newU X (.row x.2.2.1 x.2.2.2)) h
def zp:List (Nat×Option Nat×List U×TypeId)->Prop
 |[]=>True|x::r=>aL 0 x.2.2.1/\zp r
theorem qw4:∀{L:List (Nat×Option Nat×List U×TypeId)}{n:Nat},zp L->∀al∈xQ n L,aL 0 al.l
 |[],n,_,al,h=>by cases h
 |x::r,n,hz,al,h=>by rcases zI.1 h with rfl |h;exact hz.1;exact qw4 hz.2 al h
section
variable{C:PG}{T:Tb}(hT:lF C.prog T){n0:Nat}{Q:Exit->List U->Sg->Prop}{tm:List U}{X:Sg}
include hT
theorem WPU.drawA{id:Nat}{a9:Array Oper}(L:List (Nat×Option Nat×List U×TypeId))(pr:List (Nat×Nat))(bY:MI a9.toList=true)(hL:L≠[])(hz:zp L)
  (h:RA C.prog T a9.toList X.nx ⟨X.h,X.nx+L.length⟩ (xQ X.nx L) a9.toList tm (ER X L) [] (xQ X.nx L) (fun ks tm' X'=>Zh a9.toList (ks.reverse.map fun x=>kf x.1) pr=true/\Ey (L.map (·.1)) (ks.reverse.map (·.1)) (cO a9.toList [])=true/\Y7 T ks.reverse pr/\Q .normal tm' X')):WPU C n0 (.region id a9 true) tm X Q:=fun hn F x tv m w a b0 hx st hG hd ro kH=>by
 obtain⟨ks,tm',X',⟨A3,UG,v6,hQ⟩,g2,g3,g4,g5,g9,g6,g7⟩:=RZ _ _ _ _ _ _ h;simp only[List.append_nil,List.reverse_reverse,zS,Nat.zero_add]at A3 UG v6 g6 g7 g9;have ati:∀(i:Nat)(r:dQ),(ks.map (·.2))[i]? = some r->∃k,ks[i]? = some (k,r):=by intro i r hr;simp only[List.getElem?_map]at hr;rcases hk:ks[i]? with _|x;rw[hk]at hr;simp at hr;obtain⟨k,r'⟩:=x;rw[hk]at hr;simp at hr;subst hr;exact⟨k,rfl⟩
 have fV:Kx C.prog T a9.toList tm (ER X L) (ks.map (·.2)) tm' X':=⟨by simpa using g2,g3,g4,fun i r hr=>by obtain⟨k,hk⟩:=ati i r hr;obtain⟨a,b,c,d⟩:=g5 i _ hk;exact⟨a,b.good,c,d⟩⟩;have DQ:qj T a9.toList (ks.map (·.2)):=Du bY fV (fun i x hx=>(g5 i x hx).2.1) A3 v6;have inai:∀al∈xQ X.nx L,al.i∈L.map (·.1):=by
  have:∀(L:List (Nat×Option Nat×List U×TypeId))(n:Nat),∀al∈xQ n L,al.i∈L.map (·.1):=by
   intro L;induction L with
   |nil=>intro n al h;cases h|cons x r ih=>intro n al h;rcases zI.1 h with rfl |h;simp;simp only[zQ,zI];exact .inr (ih _ al h)
  exact this L X.nx
 have late:∀(i k:Nat)(r:dQ),ks[i]? = some (k,r)->1<=k->k<=3->∀al∈xQ X.nx L,Pre a9.toList i al.i:=fun i k r hk h1 h3 al hm=>by obtain⟨mk,e1,e2⟩:=qyd UG (i:=i) (k:=k) (by simp[hk]) h1 h3;exact⟨mk,e1,e2 _ (inai al hm)⟩
 have eS:ChA C.prog T a9.toList tm X (ER X L) (ks.map (·.2)) (xQ X.nx L):=by
  refine⟨?_,fun al hm=>by rw[Gn];exact Ga hm,fun a ha b hb hk=>by rw[z1n ha hb hk],by rw[Gn];omega,fun al hm=>?_,qw4 hz,fun i r hr ha hv=>?_,fun al hm=>qxj hm,fun j hj=>ie L X hj,fun i r hr ha=>?_,fun i r hr ha hv=>?_⟩;rcases L with _|⟨x,r⟩;exact absurd rfl hL;simp[xQ];obtain⟨i,x,d,e1,e2,e3,e4,e5,e6,e7⟩:=g7 al hm;have hk:=(g5 i x e2).2.1;have nL:x.2.act=false:=by rcases hb:x.2.act with _|_;rfl;have:=hk.act.1 hb;omega
  exact⟨x.2,d,by rw[e1];simp[e2],e4,nL,(hk.mv nL).2 e3,e5,e6,e7⟩;obtain⟨k,hk⟩:=ati i r hr;have:=((g5 i _ hk).2.1.mv ha).1 hv;exact g6 i _ hk this;obtain⟨k,hk⟩:=ati i r hr;have:=(g5 i _ hk).2.1.act.1 ha;simp only[]at this;by_cases h7:k=7;exact .inr (g9 i _ hk h7);exact .inl (late i k r hk (by omega) (by omega));obtain⟨k,hk⟩:=ati i r hr;rcases(g5 i _ hk).2.1.ear ha hv with h |h;simp only[]at h;exact .inl (late i k r hk (by omega) (by omega));rw[Gn];exact .inr h
 subst hx;have C3:Mo x.X.nx x ⟨x.Y,⟨x.X.h,(ER x.X L).nx⟩,x.s⟩:=⟨fun k _ h2=>⟨by simp only[Gn];omega,fun b hb=>⟨b,hb,zF _,fun _=>⟨rfl,fun l e sz st h=>⟨l,h⟩⟩⟩⟩,fun _ _ _ h=>h⟩;have Q7:∀j b,gt x.X.h j=some b->j<x.X.nx/\BelB x.X.nx b:=fun j b hb=>⟨(st.h.ok j b hb).1,(st.h.ok j b hb).2.belB⟩;have eE:∀k,(Array.replicate a9.size false).getD k false=false:=fun k=>by by_cases hk:k<a9.size<;>simp[Array.getD,hk]
 refine wpIn_region_any hT.mixed ?_;refine zad (ro:=ro) hT a9 fV bY DQ eS hn st.e.bel Q7 (F:=F) (x0:=x) (m0:=m) (w0:=w) (df:=a.defers) (fun y cX m' w' a' h1 h2 h3 h4 h5 h6=>⟨y,tm',cX,m',h1 ▸ hQ,h2,h3,h4,h5,by rw[h6];exact hd.adv st.fits h3⟩) a9.size (Array.replicate a9.size false) a _ m tm tv ⟨x.Y,⟨x.X.h,(ER x.X L).nx⟩,x.s⟩ 0 (Nat.zero_le _) (fun e r _ _=>by rw[eE];simp) (by simp) (by simp) ?_ ?_ ?_ rfl ?_ (fun _ _=>rfl) ?_ ?_ (C3.ke.le hn) rfl;intro k q hk;rw[eE]at hk;cases hk;have:=nl (rs:=ks.map (·.2)) (tm₀:=tm);exact⟨this.len,fun k r d _ _ _ hL=>(by rw[eE]at hL;cases hL),fun k r d g1 g2 _=>this.no k r d g1 g2 (fun x=>x),this.other⟩;rcases hA:xQ x.X.nx L with _|⟨al,r⟩;exact absurd hA eS.some;exact⟨al,by simp,by rw[eE];simp⟩;intro al hm;rw[eE];simp only[Bool.false_eq_true,if_false];rcases hg:gt x.X.h al.k with _|b;rfl;have:=(Q7 _ _ hg).1;have:=(Ga hm).1;omega;refine⟨⟨fun k b hb=>?_,st.h.inj,st.h.bd⟩,st.fr,C3.ke.E st.e.bel st.e,(bP.draw _ st.fits).fits,st.act⟩;obtain⟨h1,h2⟩:=st.h.ok k b hb;exact⟨by simp only[Gn];omega,h2.mono C3 rfl fun _ _ _ h=>h⟩;exact bP.draw _ st.fits
end
section
variable{P:Program}{T:Tb}{a9 r:List Oper}{o:Oper}{n nb:Nat}{Xe:Sg}{l:List (Nat×U)}{X X':Sg}{aX:List RK}{q qa:List Al}{K:List RK->List U->Sg->Prop}{u:U}
variable{d:Tmp}
theorem RQ.look(hw:cJ a9 (fr n l) o=some true)(h:bM T X (fr n l) o.op=some (u,X))(he:o.dst=some d)(hd:Nat.blt d n=true)(hk:RA P T a9 nb Xe qa r (fr n ((d,u)::l)) X ((1,⟨fr n l,o,u,false,false,X,X⟩)::aX) q K):RA P T a9 nb Xe qa (o::r) (fr n l) X aX q K :=
 .inl ⟨hw,u,h,by rw[he,sV (d:=some d) u hd];exact hk⟩
theorem RQ.act(hw:cJ a9 (fr n l) o=some true)(h:bM T X (fr n l) o.op=some (u,X'))(he:o.dst=some d)(hd:Nat.blt d n=true)(hk:RA P T a9 nb Xe qa r (fr n ((d,u)::l)) X' ((3,⟨fr n l,o,u,true,true,X,X'⟩)::aX) q K):RA P T a9 nb Xe qa (o::r) (fr n l) X aX q K :=
 .inr (.inl ⟨hw,u,X',h,by rw[he,sV (d:=some d) u hd];exact hk⟩)
theorem RQ.actn(hw:cJ a9 (fr n l) o=some true)(h:bM T X (fr n l) o.op=some (u,X'))(he:o.dst=none)(hk:RA P T a9 nb Xe qa r (fr n l) X' ((3,⟨fr n l,o,u,true,true,X,X'⟩)::aX) q K):RA P T a9 nb Xe qa (o::r) (fr n l) X aX q K :=
 .inr (.inl ⟨hw,u,X',h,by rw[he];exact hk⟩)
variable{f:FuncId}
variable{args:List U}
theorem RQ.call(hw:cJ a9 (fr n l) o=some true)(hc:k8 T (fr n l) o.op=some (f,args))(k9:bE P f args X (fun u' X'=>u'=u/\X'=X))(he:o.dst=some d)(hd:Nat.blt d n=true)(hk:RA P T a9 nb Xe qa r (fr n ((d,u)::l)) X ((2,⟨fr n l,o,u,true,false,X,X⟩)::aX) q K):RA P T a9 nb Xe qa (o::r) (fr n l) X aX q K :=
 .inr (.inr (.inl ⟨hw,f,args,u,hc,k9,by rw[he,sV (d:=some d) u hd];exact hk⟩))
theorem RQ.free(hw:cJ a9 (fr n l) o=some true)(hc:k8 T (fr n l) o.op=some (f,args))(k9:∀s,bE P f args s (fun u' X'=>u'=u/\X'=s))(hb:bB nb u)(he:o.dst=some d)(hd:Nat.blt d n=true)(hk:RA P T a9 nb Xe qa r (fr n ((d,u)::l)) X ((6,⟨fr n l,o,u,false,false,X,X⟩)::aX) q K):RA P T a9 nb Xe qa (o::r) (fr n l) X aX q K :=
 .inr (.inr (.inr (.inr (.inr (.inl ⟨hw,u,.inl ⟨f,args,hc,k9⟩,hb,by rw[he,sV (d:=some d) u hd];exact hk⟩)))))
theorem RQ.early(hw:cJ a9 (fr n l) o=some true)(h:bM T X (fr n l) o.op=some (u,X))(h0:bM T Xe (fr n l) o.op=some (u,Xe))(hn:XO o.op=true)(hb:bB nb u)(he:o.dst=some d)(hd:Nat.blt d n=true)(hk:RA P T a9 nb Xe qa r (fr n ((d,u)::l)) X ((5,⟨fr n l,o,u,false,false,X,X⟩)::aX) q K):RA P T a9 nb Xe qa (o::r) (fr n l) X aX q K :=
 .inr (.inr (.inr (.inr (.inr (.inr (.inl ⟨hw,u,h,h0,hn,hb,by rw[he,sV (d:=some d) u hd];exact hk⟩))))))
theorem RQ.alloc{al:Al}(hi:al.i=aX.length)(ho:∀s,bM T s (fr n l) o.op=some (rF al.o s.nx,newU s (.row al.l al.e)))(hg:o.guard=none)(he:o.dst=some d)(hd:Nat.blt d n=true)(hk:RA P T a9 nb Xe qa r (fr n ((d,rF al.o al.k)::l)) X ((4,⟨fr n l,o,rF al.o al.k,false,true,X,X⟩)::aX) q K):RA P T a9 nb Xe qa (o::r) (fr n l) X aX (al::q) K :=
 .inr (.inr (.inr (.inr (.inr (.inr (.inr (.inl ⟨al,q,d,rfl,hi,.inl ho,hg,he,by rw[he,sV (d:=some d) _ hd];exact hk⟩)))))))
theorem RQ.mcall{al:Al}(hi:al.i=aX.length)(hc:k8 T (fr n l) o.op=some (f,args))(ho:∀s,bE P f args s (fun u s'=>u=rF al.o s.nx/\s'=newU s (.row al.l al.e)))(hg:o.guard=none)(he:o.dst=some d)(hd:Nat.blt d n=true)(hk:RA P T a9 nb Xe qa r (fr n ((d,rF al.o al.k)::l)) X ((4,⟨fr n l,o,rF al.o al.k,false,true,X,X⟩)::aX) q K):RA P T a9 nb Xe qa (o::r) (fr n l) X aX (al::q) K :=
 .inr (.inr (.inr (.inr (.inr (.inr (.inr (.inl ⟨al,q,d,rfl,hi,.inr ⟨f,args,hc,ho⟩,hg,he,by rw[he,sV (d:=some d) _ hd];exact hk⟩)))))))
theorem RQ.done(h:K aX (fr n l) X):RA P T a9 nb Xe qa [] (fr n l) X aX [] K:=⟨rfl,h⟩
end
section
variable{C:PG}{T:Tb}(hT:lF C.prog T){n0:Nat}{Q:Exit->List U->Sg->Prop}{tm:List U}{X:Sg}
include hT
theorem WPU.drawQ{id:Nat}{a9:Array Oper}(L:List (Nat×Option Nat×List U×TypeId))(pr:List (Nat×Nat)){nb:Nat}{Xe X1:Sg}{q:List Al}(bY:MI a9.toList=true)(hL:L≠[])(hz:zp L)
  (h1:X.nx=nb) (h2:(⟨X.h,X.nx+L.length⟩:Sg)=Xe) (h3:ER X L=X1) (h4:xQ X.nx L=q)
  (h:RA C.prog T a9.toList nb Xe q a9.toList tm X1 [] q (fun ks tm' X'=>Zh a9.toList (ks.reverse.map fun x=>kf x.1) pr=true/\Ey (L.map (·.1)) (ks.reverse.map (·.1)) (cO a9.toList [])=true/\Y7 T ks.reverse pr/\Q .normal tm' X')):WPU C n0 (.region id a9 true) tm X Q:=by
 subst h1 h2 h3 h4;exact WPU.drawA hT L pr bY hL hz h
end
theorem bE.maker{P:Program}{f:FuncId}{args l:List U}{e:TypeId}(h:∀s,bE P f args s (fun u s'=>∃t:Nat->Nat,u=.ptr (s.nx+1) 0 0/\s'=⟨(s.nx+1,.row l e)::s.h,s.nx+2⟩))[hl:eU 0 l](s:Sg):
  bE P f args s (fun u s'=>u=rF none s.nx/\s'=newU s (.row l e)):=fun F x vs m w bH hx hh m7 he fN dB=>by
 refine(h s F x vs m w bH hx hh m7 he fN dB).mono ?_;rintro ex w₁ ⟨y,aH,u,v,cv,q1,⟨_,rfl,q2⟩,q3,q4,q5,q6,q7,q8,q9⟩;subst hx;have aE:∀j b,gt x.X.h j=some b->j<x.X.nx+1:=fun j b hb=>by have:=(hh.ok j b hb).1;omega
 have Wc:gt x.X.h x.X.nx=none:=by rcases hg:gt x.X.h x.X.nx with _|b;rfl;have:=(hh.ok _ b hg).1;omega
 obtain⟨y',z1,z2,z3,z4,z5,z6,z7⟩:=z4b (F:=F) (nx0:=x.X.nx) (k:=x.X.nx) (X:=⟨x.X.h,x.X.nx+1⟩) q2 q5 q6 (zF _) (zN _) Wc aE hl.h (fun j b hb=>(hh.ok j b hb).2.belB);exact⟨y',aH,_,v,cv,q1,⟨rfl,z1⟩,by rw[z2];exact q3,by rw[z2];exact q4,z3,z4,z6 none v q7,q8.trans z5,by rw[z1];show x.X.nx<=x.X.nx+1;omega⟩
class TbP(P:Program)(T:outParam Tb):Prop where
 ok:lF P T
class bj(C:PG)(T:outParam Tb):Prop where
 ok:lF C.prog T
instance{P:Program}{T:Tb}[h:TbP P T]:bj (PG.of P) T:=⟨h.ok⟩
section
variable{P:Program}{T:Tb}{a9 r:List Oper}{o:Oper}{n:Nat}{l:List (Nat×U)}{X X':Sg}{u:U}
theorem aP{C:PG}{K:List U->Sg->Prop}{d:Tmp}(he:o.dst=some d)(h:bM T X (fr n l) o.op=some (u,X'))(hk:RU C T a9 r (fr n ((d,u)::l)) X' K)(hw:cJ a9 (fr n l) o=some true:=by exact rfl)(hd:Nat.blt d n=true:=by exact rfl):RU C T a9 (o::r) (fr n l) X K:=RS.op hw h he hd hk
theorem aQ{aX:List RK}{K:List RK->List U->Sg->Prop}{d:Tmp}(he:o.dst=some d)(h:bM T X (fr n l) o.op=some (u,X))(hk:RH P T a9 r (fr n ((d,u)::l)) X ((1,⟨fr n l,o,u,false,false,X,X⟩)::aX) K)(hw:cJ a9 (fr n l) o=some true:=by exact rfl)(hd:Nat.blt d n=true:=by exact rfl):RH P T a9 (o::r) (fr n l) X aX K:=RD.look hw h he hd hk
end
theorem st{A B:Prop}(h:B)(g:B->A:=by intro h;(repeat refine Go.Vx.gq ?_);(repeat refine Go.Vx.sq ?_);exact h):A:=g h
theorem bE.viewT{P:Program}{f:FuncId}{args args':List U}{X:Sg}{us:List U}{rs:List Value}(h:bE P f args ⟨[],0⟩ (fun u' _=>u'=.tup us/\bB 0 u'))(ha:aL 0 args)(hu:eP us=some rs)(C7:∀m,aJ m rs=rs){X1:Sg}(hg:Gh 0 args' X args X1):bE P f args' X (fun u' X'=>u'=.tup us/\X'=X):=fun F x vs m w bH hx hh m7 he fN dB=>by
 obtain⟨y1,a1,a2,a3,a4,a5,a6⟩:=hg F x vs hx hh m7 he;have jB:=a1 m w fN;have d8:=bP.less jB.fits (qr8 y1.s);have fW:Mo 0 y1 (cx (EU y1.s)):=⟨fun k hk=>by omega,fun i row e hl=>by show lk (EU y1.s).h i=_;rw[YF,hl];rfl⟩;have eE:∀b,¬ R6 m (EU y1.s) b:=fun b ⟨i,c,hc,ho,_⟩=>by rw[YF]at hc;obtain⟨_,l,e,rfl⟩:=Pn hc;simp[Rx.Own]at ho
 refine(h (fun _ _=>False) (cx (EU y1.s)) vs m w bH rfl ⟨fun k b hb=>by simp[cx,gt]at hb,fun k k' b b' i hb=>by simp[cx,gt]at hb,fun i b hb=>?_⟩ (fun _ _ J=>J.elim) (fW.ke.E ha a5) d8.fits (dB.ext (aM.refl _ _) (Nat.le_trans jB.nx d8.nx))).mono ?_;have cU:lk (EU y1.s).h i=some b:=hb;rw[YF]at cU;exact a3.bd i b (Pn cU).1;rintro e nX ⟨y2,FH,u',v',cv,rfl,⟨rfl,_⟩,aT,gU,_,_,DH,_,_⟩;simp only[aD]at DH;obtain⟨IA,rfl,S_,Q_⟩:=DH;have hv:=(H9 us rs hu y2 IA).1 ⟨S_,Q_⟩;subst hv;have Z?:cv=.tuple ⟨IA⟩:=by rw[<-gU.at];simp only[aI,iE,C7]
 subst Z?;have yX:∀b,b<w.heap.size->nX.heap[b]? = w.heap[b]?:=fun b aE=>aT.same b aE (eE b);refine⟨x,m,.tup us,.tuple ⟨IA⟩,.tuple ⟨IA⟩,rfl,⟨rfl,hx⟩,⟨aM.refl _ _,zF _,fun m' dJ=>?_,fun b h=>.inl h,fun b aE _=>yX b aE,aT.size,aT.os,aT.tape,aT.output⟩,fun m' _=>by simp only[aI,iE,C7],hh,m7,by simp only[aD];exact⟨IA,rfl,((H9 us IA hu x IA).2 rfl).1,((H9 us IA hu x IA).2 rfl).2⟩,Ke.refl _ _,zF _⟩;have A0:=fN m' dJ;exact⟨fun i b hb=>(A0.ok i b hb).world (yX _ (A0.size hb)),A0.inj,A0.bd⟩
class fY{O:Type}(c:O->List U)(n:outParam Nat):Prop where
 h:∀x,(c x).length=n
instance(k:IntKind):fY (cI k) 1:=⟨m5 k⟩
instance:fY cS 1:=⟨OD⟩
instance{O:Type}(c:O->List U):fY (cL c) 1:=⟨SB c⟩
abbrev U.iM{O:Type}(c:O->List U)(l:List O):U:=.isl false (l.map c)
abbrev U.i6(z:Int):U:=.int .i64 z
variable{P:Program}
variable{f:FuncId}
variable{args:List U}
variable{u:U}
theorem pC(h:bE P f args ⟨[],0⟩ (fun u' _=>u'=u/\bB 0 u'))[q:eU 0 args](X:Sg):bE P f args X (fun u' X'=>u'=u/\X'=X):=bx h X
theorem sI{O:Type}{a b:O}(h:some a=some b):a=b:=Option.some.inj h
class Nq(a b:Nat):Prop where
 h:Nat.beq a b=false
instance{b:Nat}:Nq 0 (b+1):=⟨rfl⟩
instance{b:Nat}:Nq (b+1) 0:=⟨rfl⟩
instance{a b:Nat}[q:Nq a b]:Nq (a+1) (b+1):=⟨q.h⟩
class CU(h:List (Nat×B))(K:Nat)(b:outParam B):Prop where
 h:gt h K=some b
instance(priority:=low){K k:Nat}{x b:B}{t:List (Nat×B)}[n:Nq k K][g:CU t K b]:CU ((k,x)::t) K b:=⟨by simp only[gt,n.h,zD,g.h]⟩
instance{K:Nat}{b:B}{t:List (Nat×B)}:CU ((K,b)::t) K b:=⟨by simp[gt]⟩
class qe(b:B):Prop where
 h:∀es cl,b≠.map es cl
instance{l:List U}{e:TypeId}:qe (.row l e):=⟨fun _ _=>nofun⟩
instance{l:List U}{e:TypeId}{s t:Nat}:qe (.vec l e s t):=⟨fun _ _=>nofun⟩
class Ck(n sz:Nat)(l:List U)(r:outParam (List (List U))):Prop where
 h:n*sz<=l.length
 e:cD sz n l=r
instance{s:Nat}{l:List U}:Ck 0 s l []:=⟨by omega,by simp[cD]⟩
instance{n:Nat}{a:U}{l:List U}{r:List (List U)}[q:Ck n 1 l r]:Ck (n+1) 1 (a::l) ([a]::r):=⟨by have:=q.h;simp;omega,by have:=q.e;simp[cD,this]⟩
instance{n:Nat}{a b:U}{l:List U}{r:List (List U)}[q:Ck n 2 l r]:Ck (n+1) 2 (a::b::l) ([a,b]::r):=⟨by have:=q.h;simp;omega,by have:=q.e;simp[cD,this]⟩
instance{n:Nat}{a b c:U}{l:List U}{r:List (List U)}[q:Ck n 3 l r]:Ck (n+1) 3 (a::b::c::l) ([a,b,c]::r):=⟨by have:=q.h;simp;omega,by have:=q.e;simp[cD,this]⟩
instance(priority:=low){O:Type}{c:O->List U}{x:O}{sz:Nat}[q:fY c sz]:Ck 1 sz (c x) [c x]:=⟨by have:=q.h x;omega,by have:=q.h x;simp[cD,<-this]⟩
class vF(K:Nat)(b:B)(sz:Nat)(u:U)(u':outParam U):Prop where
 h:fz K b sz u=u'
class LI(K:Nat)(b:B)(sz:Nat)(l:List U)(l':outParam (List U)):Prop where
 h:jT K b sz l=l'
section
variable{K:Nat}{b:B}{sz:Nat}
instance(priority:=low){l:List U}[q:eU K l]:LI K b sz l l:=⟨sX b sz l q.h⟩
instance:LI K b sz [] []:=⟨yR K b sz⟩
instance{u u':U}{l l':List U}[a:vF K b sz u u'][q:LI K b sz l l']:LI K b sz (u::l) (u'::l'):=⟨by rw[vS,a.h,q.h]⟩
instance{k:IntKind}{z:Int}:vF K b sz (.int k z) (.int k z):=⟨H5 K b sz k z⟩
instance{x:Bool}:vF K b sz (.bool x) (.bool x):=⟨MA K b sz x⟩
instance{x:List UInt8}:vF K b sz (.str x) (.str x):=⟨M6 K b sz x⟩
instance:vF K b sz .nils .nils:=⟨J5 K b sz⟩
instance{t:Bool}{l:List (List U)}:vF K b sz (.isl t l) (.isl t l):=⟨M7 K b sz t l⟩
instance{l l':List U}[q:LI K b sz l l']:vF K b sz (.agg l) (.agg l'):=⟨by rw[J2,q.h]⟩
instance{l l':List U}[q:LI K b sz l l']:vF K b sz (.tup l) (.tup l'):=⟨by rw[M5,q.h]⟩
instance{f:Fn}{a a' c c':List U}[q:LI K b sz a a'][r:LI K b sz c c']:vF K b sz (.fn f a c) (.fn f a' c'):=⟨by rw[M4,q.h,r.h]⟩
instance{k st off n:Nat}[q:Nq k K]:vF K b sz (.vl k st off n) (.vl k st off n):=⟨Hi q.h b sz st off n⟩
instance{k off n c:Nat}[q:Nq k K]:vF K b sz (.sl k off n c) (.sl k off n c):=⟨vi q.h b sz off n c⟩
instance{k st off:Nat}[q:Nq k K]:vF K b sz (.ptr k st off) (.ptr k st off):=⟨vj q.h b sz st off⟩
end
instance{O:Type}{c:O->List U}{sz s K st:Nat}{l:List O}{e:TypeId}[q:fY c sz]:vF K (.vec (l.map c).flatten e sz st) s (.vl K st 0 l.length) (.isl false (l.map c)):=⟨Le q.h l K s e st⟩
instance{K sz n:Nat}{l:List U}{e:TypeId}{r:List (List U)}[q:Ck n sz l r]:vF K (.row l e) sz (.sl K 0 n n) (.isl false r):=⟨by rw[UV K l e sz n q.h,q.e]⟩
instance{K sz:Nat}{l:List U}{e:TypeId}:vF K (.row l e) sz (.ptr K 0 0) (.iptr l):=⟨Xs K l e sz⟩
instance{K sz:Nat}{b:B}{u u':U}[q:vF K b sz u u']:vF K b sz (oZ [u]) u':=⟨q.h⟩
instance{K sz:Nat}{b:B}{u v u':U}{l:List U}[q:vF K b sz (.tup (u::v::l)) u']:vF K b sz (oZ (u::v::l)) u':=⟨q.h⟩
class FzB(K:Nat)(b:B)(sz:Nat)(x:B)(x':outParam B):Prop where
 h:fzB K b sz x=x'
instance{K sz:Nat}{b:B}{l l':List U}{e:TypeId}[q:LI K b sz l l']:FzB K b sz (.row l e) (.row l' e):=⟨by rw[fzB,q.h]⟩
instance{K sz:Nat}{b:B}{l l':List U}{e:TypeId}{s st:Nat}[q:LI K b sz l l']:FzB K b sz (.vec l e s st) (.vec l' e s st):=⟨by rw[fzB,q.h]⟩
class W0(K:Nat)(b:B)(sz:Nat)(h:List (Nat×B))(h':outParam (List (Nat×B))):Prop where
 h:fzH K b sz h=h'
section
variable{K:Nat}{b:B}{sz:Nat}
instance:W0 K b sz [] []:=⟨rfl⟩
instance(priority:=low){k:Nat}{c c':B}{h h':List (Nat×B)}[n:Nq k K][p:FzB K b sz c c'][q:W0 K b sz h h']:W0 K b sz ((k,c)::h) ((k,c')::h'):=⟨by simp only[fzH,n.h,zD,p.h,q.h]⟩
instance{c:B}{h h':List (Nat×B)}[q:W0 K b sz h h']:W0 K b sz ((K,c)::h) h':=⟨by simp[fzH,q.h]⟩
end
class bp(K:Nat)(b:B)(sz:Nat)(l:List (Nat×U))(l':outParam (List (Nat×U))):Prop where
 h:fzS K b sz l=l'
instance{K:Nat}{b:B}{sz:Nat}:bp K b sz [] []:=⟨rfl⟩
instance{K:Nat}{b:B}{sz i:Nat}{u u':U}{l l':List (Nat×U)}[a:vF K b sz u u'][q:bp K b sz l l']:bp K b sz ((i,u)::l) ((i,u')::l'):=⟨by rw[fzS,a.h,q.h]⟩
variable{n0:Nat}
variable{nx:Nat}
variable{h:List (Nat×B)}
variable{h':List (Nat×B)}
variable{b:B}
theorem lV{tm tm':List U}(K sz:Nat)[g:CU h K b][m:qe b][t:LI K b sz tm tm'][q:W0 K b sz h h']:Gh n0 tm ⟨h,nx⟩ tm' ⟨h',nx⟩:=Gh.fz K b sz g.h m.h t.h q.h
variable{n:Nat}
variable{l:List (Nat×U)}
variable{l':List (Nat×U)}
theorem HW(K sz:Nat)[g:CU h K b][m:qe b][t:bp K b sz l l'][q:W0 K b sz h h']:Gh n0 (fr n l) ⟨h,nx⟩ (fr n l') ⟨h',nx⟩:=Gh.fzS K b sz g.h m.h t.h q.h
class Em(h:List (Nat×B))(K:Nat)(b:B)(h':outParam (List (Nat×B))):Prop where
 h:ug h K b=h'
instance{K:Nat}{x b:B}{t:List (Nat×B)}:Em ((K,x)::t) K b ((K,b)::t):=⟨by simp[ug]⟩
instance(priority:=low){K k:Nat}{x b:B}{t t':List (Nat×B)}[n:Nq k K][g:Em t K b t']:Em ((k,x)::t) K b ((k,x)::t'):=⟨by simp only[ug,n.h,zD,g.h]⟩
class VV(l:List U)(l':outParam (List U)):Prop where
 h:rG l l'
instance:VV [] []:=⟨.nil⟩
instance(priority:=low){u:U}{l l':List U}[q:VV l l']:VV (u::l) (u::l'):=⟨.cons (.refl _) q.h⟩
instance{l l':List U}[q:VV l l']:VV (.nils::l) (.isl false []::l'):=⟨.cons (.nil false) q.h⟩
theorem Gh.rowC{tm:List U}{q q':List U}{e:TypeId}(K:Nat)[g:CU h K (.row q e)][w:VV q q'][u:Em h K (.row q' e) h'](hk:okL q'=true:=by exact rfl):Gh n0 tm ⟨h,nx⟩ tm ⟨h',nx⟩:=by
 have:=Gh.rowW (n0:=n0) (tm:=tm) (X:=⟨h,nx⟩) g.h hk w.h;simp only[u.h]at this;exact this
theorem NZ:0<=n:=Nat.zero_le n
theorem NL{a b:Nat}(h:Nat.ble a b=true:=by exact rfl):a<=b:=zY h
theorem sB{a b:Nat}(h:Nat.ble a b=true):a<=b:=zY h
variable{T:Tb}
variable{fn:Func}
variable{k:Code}
variable{X:Sg}
variable{R:U->Sg->Prop}
theorem bg0[t:TbP P T](n:Nat)(hf:T.fn f=some fn)(h:WPU (PG.of P) X.nx k (fr n []) X fun e tm' X'=>(e=.normal\/e=.ret)/\∃l,oK T X' tm' fn.results.toList=some l/\∃u' bZ,X.nx<=bZ.nx/\Gh X.nx [oZ l] X' [u'] bZ/\R u' bZ)(hn:fn.ntmps=n:=by exact rfl)(hb:fn.body=some k:=by exact rfl)(hk:Nat.ble 0 n=true:=by exact rfl):bE P f [] X R:=Er t.ok hf hb (cE (by rw[hn];exact NG (sB hk)) (zF _) h)
theorem kC[t:TbP P T]{a:U}(n:Nat)(hf:T.fn f=some fn)(h:WPU (PG.of P) X.nx k (fr n [(0,a)]) X fun e tm' X'=>(e=.normal\/e=.ret)/\∃l,oK T X' tm' fn.results.toList=some l/\∃u' bZ,X.nx<=bZ.nx/\Gh X.nx [oZ l] X' [u'] bZ/\R u' bZ)(hn:fn.ntmps=n:=by exact rfl)(hb:fn.body=some k:=by exact rfl)(hk:Nat.ble 1 n=true:=by exact rfl):bE P f [a] X R:=Er t.ok hf hb (cE (by rw[hn];exact NG (sB hk)) (zF _) h)
theorem gI[t:TbP P T]{a b:U}(n:Nat)(hf:T.fn f=some fn)(h:WPU (PG.of P) X.nx k (fr n [(0,a),(1,b)]) X fun e tm' X'=>(e=.normal\/e=.ret)/\∃l,oK T X' tm' fn.results.toList=some l/\∃u' bZ,X.nx<=bZ.nx/\Gh X.nx [oZ l] X' [u'] bZ/\R u' bZ)(hn:fn.ntmps=n:=by exact rfl)(hb:fn.body=some k:=by exact rfl)(hk:Nat.ble 2 n=true:=by exact rfl):bE P f [a,b] X R:=Er t.ok hf hb (cE (by rw[hn];exact NG (sB hk)) (zF _) h)
variable{c:U}
theorem CP[t:TbP P T]{a b:U}(n:Nat)(hf:T.fn f=some fn)(h:WPU (PG.of P) X.nx k (fr n [(0,a),(1,b),(2,c)]) X fun e tm' X'=>(e=.normal\/e=.ret)/\∃l,oK T X' tm' fn.results.toList=some l/\∃u' bZ,X.nx<=bZ.nx/\Gh X.nx [oZ l] X' [u'] bZ/\R u' bZ)(hn:fn.ntmps=n:=by exact rfl)(hb:fn.body=some k:=by exact rfl)(hk:Nat.ble 3 n=true:=by exact rfl):bE P f [a,b,c] X R:=Er t.ok hf hb (cE (by rw[hn];exact NG (sB hk)) (zF _) h)
theorem bg4[t:TbP P T]{a b d:U}(n:Nat)(hf:T.fn f=some fn)(h:WPU (PG.of P) X.nx k (fr n [(0,a),(1,b),(2,c),(3,d)]) X fun e tm' X'=>(e=.normal\/e=.ret)/\∃l,oK T X' tm' fn.results.toList=some l/\∃u' bZ,X.nx<=bZ.nx/\Gh X.nx [oZ l] X' [u'] bZ/\R u' bZ)(hn:fn.ntmps=n:=by exact rfl)(hb:fn.body=some k:=by exact rfl)(hk:Nat.ble 4 n=true:=by exact rfl):bE P f [a,b,c,d] X R:=Er t.ok hf hb (cE (by rw[hn];exact NG (sB hk)) (zF _) h)
theorem bg5[t:TbP P T]{a b d e:U}(n:Nat)(hf:T.fn f=some fn)(h:WPU (PG.of P) X.nx k (fr n [(0,a),(1,b),(2,c),(3,d),(4,e)]) X fun e tm' X'=>(e=.normal\/e=.ret)/\∃l,oK T X' tm' fn.results.toList=some l/\∃u' bZ,X.nx<=bZ.nx/\Gh X.nx [oZ l] X' [u'] bZ/\R u' bZ)(hn:fn.ntmps=n:=by exact rfl)(hb:fn.body=some k:=by exact rfl)(hk:Nat.ble 5 n=true:=by exact rfl):bE P f [a,b,c,d,e] X R:=Er t.ok hf hb (cE (by rw[hn];exact NG (sB hk)) (zF _) h)
class NE(u u':U):Prop where
 h:Wk u u'
class qb(l l':List U):Prop where
 h:rG l l'
instance(priority:=low){u:U}:NE u u:=⟨.refl u⟩
instance:NE .nils (.isl false []):=⟨.nil false⟩
instance{l l':List U}[q:qb l l']:NE (.agg l) (.agg l'):=⟨.agg q.h⟩
instance{l l':List U}[q:qb l l']:NE (.tup l) (.tup l'):=⟨.tup q.h⟩
instance{u u':U}[q:NE u u']:NE (oZ [u]) u':=⟨q.h⟩
instance{u v u':U}{l:List U}[q:NE (.tup (u::v::l)) u']:NE (oZ (u::v::l)) u':=⟨q.h⟩
instance:qb [] []:=⟨.nil⟩
instance{u u':U}{l l':List U}[a:NE u u'][q:qb l l']:qb (u::l) (u'::l'):=⟨.cons a.h q.h⟩
theorem lC{I:Nat->List U->Sg->Prop}{m n1:Nat}(hI:I m (fr n l') ⟨h',n1⟩)(ht:HX l l':=by((repeat refine⟨rfl,?_⟩);exact trivial))(hs:Vx.cut n1 h=h':=by exact rfl)(h1:n0<=n1:=by first |exact Nat.zero_le _ |exact zY rfl)(h2:n1<=nx:=by exact zY rfl)[hb:BS n1 l'][hh:BH n1 h']:∃n' tm' X',n'<m+1/\I n' tm' X'/\n0<=X'.nx/\Gh n0 (fr n l) ⟨h,nx⟩ tm' X':=⟨m,_,_,zN _,hI,h1,Gh.toC ht hs h1 h2⟩
theorem xC{E:List U->Sg->Prop}{n1:Nat}(hE:E (fr n l') ⟨h',n1⟩)(ht:HX l l':=by((repeat refine⟨rfl,?_⟩);exact trivial))(hs:Vx.cut n1 h=h':=by exact rfl)(h1:n0<=n1:=by first |exact Nat.zero_le _ |exact zY rfl)(h2:n1<=nx:=by exact zY rfl)[hb:BS n1 l'][hh:BH n1 h']:∃tm' X',E tm' X'/\n0<=X'.nx/\Gh n0 (fr n l) ⟨h,nx⟩ tm' X':=⟨_,_,hE,h1,Gh.toC ht hs h1 h2⟩
section
variable{T:Tb}{n:Nat}{l:List (Nat×U)}{X:Sg}{rs:List ResultVar}
theorem rT{us:List U}(hr:oK T X (fr n l) rs=some us)(hg:Gh 0 [oZ us] X [u] ⟨[],0⟩)[q:BU 0 u]:(Exit.ret=.normal\/Exit.ret=.ret)/\∃l',oK T X (fr n l) rs=some l'/\∃u' bZ,(⟨[],0⟩:Sg).nx<=bZ.nx/\Gh (⟨[],0⟩:Sg).nx [oZ l'] X [u'] bZ/\u'=u/\bB 0 u':=⟨.inr rfl,us,hr,u,⟨[],0⟩,zF _,hg,rfl,q.h⟩
theorem rt1{a:Tmp}{t:List ResultVar}{v:U}(ht:rs=.tmp a::t)(h:c7 n l (.tmp a)=some v)(h0:t=[])(hu:v=u)[q:BU 0 u]:(Exit.ret=.normal\/Exit.ret=.ret)/\∃l',oK T X (fr n l) rs=some l'/\∃u' bZ,(⟨[],0⟩:Sg).nx<=bZ.nx/\Gh (⟨[],0⟩:Sg).nx [oZ l'] X [u'] bZ/\u'=u/\bB 0 u':=by
 subst ht;subst h0;subst hu;exact rT (eA h dL) (uM _ rfl)
theorem yG{a b:Tmp}{t:List ResultVar}{v w:U}(ht:rs=.tmp a :: .tmp b::t)(h:c7 n l (.tmp a)=some v)(h':c7 n l (.tmp b)=some w)(h0:t=[])(hu : .tup [v,w]=u)[q:BU 0 u]:(Exit.ret=.normal\/Exit.ret=.ret)/\∃l',oK T X (fr n l) rs=some l'/\∃u' bZ,(⟨[],0⟩:Sg).nx<=bZ.nx/\Gh (⟨[],0⟩:Sg).nx [oZ l'] X [u'] bZ/\u'=u/\bB 0 u':=by
 subst ht;subst h0;subst hu;exact rT (eA h (eA h' dL)) (uM _ rfl)
end
theorem fR{u0:U}(K sz:Nat)[g:CU h K b][m:qe b][t:vF K b sz u0 u][q:W0 K b sz h h'][p:BU 0 u]:Gh 0 [u0] ⟨h,nx⟩ [u] ⟨[],0⟩:=Gh.trans (lV K sz) (uM u rfl)
theorem wR{u0:U}[w:NE u0 u][p:BU 0 u]:Gh 0 [u0] X [u] ⟨[],0⟩:=Gh.trans (Gh.wk (.cons w.h .nil)) (uM u rfl)
section
variable{C:PG}{n0 n:Nat}{Q:Exit->List U->Sg->Prop}{l:List (Nat×U)}{X:Sg}
theorem cF{β:Type}{c:Operand}{p q:Code}{t:Bool}{a b r:Option β}(J:cond t a b=r)(h1:t=true->a=r->WPU C n0 p (fr n l) X Q)(h2:t=false->b=r->WPU C n0 q (fr n l) X Q)(hc:c7 n l c=some (.bool t):=by exact rfl):WPU C n0 (.cond c p q) (fr n l) X Q:=AG hc (fun h=>h1 h (Dr h J)) (fun h=>h2 h (Ds h J))
end
class LG(op:BinOp)(k:IntKind)(a:Int)(k':IntKind)(b:Int)(r:outParam Value):Prop where
 h:kL op k a k' b=some r
section
variable{k:IntKind}{a b:Int}
instance:LG .add k a k b (.int k (k.wrap (a+b))):=⟨Ap k a b⟩
instance:LG .sub k a k b (.int k (k.wrap (a-b))):=⟨z9m k a b⟩
instance:LG .mul k a k b (.int k (k.wrap (a*b))):=⟨Aj k a b⟩
instance:LG .eql k a k b (.bool (a==b)):=⟨ei k a b⟩
instance:LG .neq k a k b (.bool (a != b)):=⟨Ai k a b⟩
instance:LG .lss k a k b (.bool (decide (a<b))):=⟨Ak k a b⟩
instance:LG .leq k a k b (.bool (decide (a<=b))):=⟨Am k a b⟩
instance:LG .gtr k a k b (.bool (decide (a>b))):=⟨An k a b⟩
instance:LG .geq k a k b (.bool (decide (a>=b))):=⟨Ao k a b⟩
end
class fI(T:Tb)(t:TypeId)(d:outParam TypeDesc):Prop where
 h:T.und t=some d
class SzC(T:Tb)(t:TypeId)(n:outParam Nat):Prop where
 h:cN T t=some n
section
variable{P:Program}{T:Tb}{a9 r:List Oper}{o:Oper}{n:Nat}{l:List (Nat×U)}{X X':Sg}{u:U}
variable{d:Tmp}
theorem wT{j:Nat}{b:Bool}(hg:o.guard=some (j,true))(hj:BM a9 j=some d)(hl:c7 n l (.tmp d)=some (.bool b))(hb:b=true):cJ a9 (fr n l) o=some true:=AN hg hj hl hb
theorem wF{j:Nat}{b:Bool}(hg:o.guard=some (j,false))(hj:BM a9 j=some d)(hl:c7 n l (.tmp d)=some (.bool b))(hb:b=false):cJ a9 (fr n l) o=some true:=AN hg hj hl hb
theorem wA{A:Prop}(h:A:=by first |exact rfl |exact Go.Vx.wT rfl rfl rfl (by first |with_reducible_and_instances assumption |exact rfl)|exact Go.Vx.wF rfl rfl rfl (by first |with_reducible_and_instances assumption |exact rfl)):A:=h
variable{C:PG}
variable{K:List U->Sg->Prop}
theorem RS.w(he:o.dst=some d)(h:bM T X (fr n l) o.op=some (u,X'))(hk:RU C T a9 r (fr n ((d,u)::l)) X' K)(hw:cJ a9 (fr n l) o=some true:=by exact Go.Vx.wA)(hd:Nat.blt d n=true:=by exact rfl):RU C T a9 (o::r) (fr n l) X K:=RS.op hw h he hd hk
theorem RD.w{aX:List RK}{K:List RK->List U->Sg->Prop}(he:o.dst=some d)(h:bM T X (fr n l) o.op=some (u,X))(hk:RH P T a9 r (fr n ((d,u)::l)) X ((1,⟨fr n l,o,u,false,false,X,X⟩)::aX) K)(hw:cJ a9 (fr n l) o=some true:=by exact Go.Vx.wA)(hd:Nat.blt d n=true:=by exact rfl):RH P T a9 (o::r) (fr n l) X aX K:=RD.look hw h he hd hk
def Lg(n:Nat)(l:List (Nat×U))(o:Oper):Option (Tmp×FuncId×List U):=match o.dst,o.op with
 |some d,.call c=>match c.callee with
  |.value f=>match c7 n l f with
   |some (.fn (.func g) [] [])=>match LM n l c.args.toList with
    |some a7=>some (d,g,a7)|none=>none
   |_=>none
  |_=>none
 |_,_=>none
theorem Gv{g:FuncId}{a7:List U}(h:Lg n l o=some (d,g,a7))(hg:T.fn g=some fn)(hb:fn.body.isSome=true):o.dst=some d/\k8 T (fr n l) o.op=some (g,a7):=by
 unfold Lg at h;split at h
 ·next d' c h1 h2=>
  split at h
  ·next f h3=>
   split at h
   ·next g' h4=>
    split at h
    ·next as' h5=>simp only[zA,zB]at h;obtain⟨rfl,rfl,rfl⟩:=h;exact⟨h1,by rw[h2];exact gC h3 h4 hg hb h5 (by simp)⟩
    cases h
   cases h
  cases h
 cases h
theorem aR(h:Lg n l o=some (d,f,args))(k9:bE C.prog f args X (fun u' X'=>u'=u/\X'=X))(hg:T.fn f=some fn)(hk:RU C T a9 r (fr n ((d,u)::l)) X K)(hb:fn.body.isSome=true:=by exact rfl)(hw:cJ a9 (fr n l) o=some true:=by exact Go.Vx.wA)(hd:Nat.blt d n=true:=by exact rfl):RU C T a9 (o::r) (fr n l) X K:=RS.call hw (Gv h hg hb).2 k9 (Gv h hg hb).1 hd hk
theorem GI{args':List U}{X1:Sg}(h:Lg n l o=some (d,f,args))(hG:Gh X.nx args X args' X1)(k9:bE C.prog f args' X1 (fun u' X'=>u'=u/\X'=X1))(hg:T.fn f=some fn)(hk:RU C T a9 r (fr n ((d,u)::l)) X1 K)(hn:X.nx<=X1.nx:=by exact zY rfl)(hb:fn.body.isSome=true:=by exact rfl)(hw:cJ a9 (fr n l) o=some true:=by exact Go.Vx.wA)(hd:Nat.blt d n=true:=by exact rfl):RU C T a9 (o::r) (fr n l) X K:=RS.fcall hw (Gv h hg hb).2 hG hn k9 (Gv h hg hb).1 hd hk
theorem fT{aX:List RK}{K:List RK->List U->Sg->Prop}(h:Lg n l o=some (d,f,args))(k9:∀s,bE P f args s (fun u' X'=>u'=u/\X'=s))(hg:T.fn f=some fn)(hk:RH P T a9 r (fr n ((d,u)::l)) X ((0,⟨fr n l,o,u,false,false,X,X⟩)::aX) K)(hb:fn.body.isSome=true:=by exact rfl)(hw:cJ a9 (fr n l) o=some true:=by exact Go.Vx.wA)(hd:Nat.blt d n=true:=by exact rfl):RH P T a9 (o::r) (fr n l) X aX K:=RD.free hw (Gv h hg hb).2 k9 (Gv h hg hb).1 hd hk
end
theorem vw{args':List U}{v:Value}{X1:Sg}(h:bE P f args ⟨[],0⟩ (fun u' _=>u'=u/\bB 0 u'))(hg:Gh 0 args' X args X1)[ha:eU 0 args](hu:toV u=some v:=by simp only[toV,eP,okL,okC,zC]<;>rfl)(C7:∀m,aI m v=v:=by exact fun m=>by simp[aI,aJ]):bE P f args' X (fun u' X'=>u'=u/\X'=X):=bE.view h ha.h hu C7 hg
structure Hd(B:Prop):Prop where
 h:B
section
variable{C:PG}{n0:Nat}{tm:List U}{X:Sg}{Q:Exit->List U->Sg->Prop}
theorem rg0[t:bj C T]{i:Nat}{a9:Array Oper}{L:List Oper}(h:RU C T L L tm X (fun tm' X'=>Q .normal tm' X'))(hl:a9.toList=L):WPU C n0 (.region i a9 false) tm X Q:=WPU.region t.ok (by rw[hl];exact h)
theorem rg1[t:bj C T]{i:Nat}{a9:Array Oper}{o:Oper}{r:List Oper}(hl:a9.toList=o::r)(h:RU C T (o::r) (o::r) tm X (fun tm' X'=>Q .normal tm' X')):WPU C n0 (.region i a9 false) tm X Q:=rg0 h hl
end
section
variable{C:PG}{T:Tb}{a9 r:List Oper}{o:Oper}{n:Nat}{l:List (Nat×U)}{X X':Sg}{u:U}{K:List U->Sg->Prop}{d:Tmp}
theorem RS.nt{j:Nat}{b:Bool}{d':Tmp}(hg:o.guard=some (j,true))(hj:BM a9 j=some d')(hl:c7 n l (.tmp d')=some (.bool b))(hb:b=false)(he:o.dst=some d)(hd:Nat.blt d n=true)(hk:RU C T a9 r (fr n ((d,.tup [])::l)) X K):RU C T a9 (o::r) (fr n l) X K:=RS.no (qn hg hj hl hb) he hd hk
theorem RS.nf{j:Nat}{b:Bool}{d':Tmp}(hg:o.guard=some (j,false))(hj:BM a9 j=some d')(hl:c7 n l (.tmp d')=some (.bool b))(hb:b=true)(he:o.dst=some d)(hd:Nat.blt d n=true)(hk:RU C T a9 r (fr n ((d,.tup [])::l)) X K):RU C T a9 (o::r) (fr n l) X K:=RS.no (qn hg hj hl hb) he hd hk
variable{x:Operand}
theorem RS.mo(ho:o.op=.move x)(hx:c7 n l x=some u)(he:o.dst=some d)(hw:cJ a9 (fr n l) o=some true)(hd:Nat.blt d n=true)(hk:RU C T a9 r (fr n ((d,u)::l)) X K):RU C T a9 (o::r) (fr n l) X K:=RS.w he (by rw[ho];exact iQ hx) hk hw hd
theorem RS.in{op:BinOp}{t t':TypeId}{y:Operand}{k k':IntKind}{a b:Int}{v:Value}(ho:o.op=.binOp op t x y t')(hx:c7 n l x=some (.int k a))(hy:c7 n l y=some (.int k' b))[h:LG op k a k' b v](hr:iI v=some u)(he:o.dst=some d)(hw:cJ a9 (fr n l) o=some true)(hd:Nat.blt d n=true)(hk:RU C T a9 r (fr n ((d,u)::l)) X K):RU C T a9 (o::r) (fr n l) X K:=RS.w he (by rw[ho];exact vP hx hy h.h hr) hk hw hd
theorem RS.p1{c a b:Operand}{t:Bool}(ho:o.op=.pick c a b)(hc:c7 n l c=some (.bool t))(ht:t=true)(h:c7 n l a=some u)(he:o.dst=some d)(hw:cJ a9 (fr n l) o=some true)(hd:Nat.blt d n=true)(hk:RU C T a9 r (fr n ((d,u)::l)) X K):RU C T a9 (o::r) (fr n l) X K:=RS.w he (by rw[ho];exact dz hc ht h) hk hw hd
theorem RS.p0{c a b:Operand}{t:Bool}(ho:o.op=.pick c a b)(hc:c7 n l c=some (.bool t))(ht:t=false)(h:c7 n l b=some u)(he:o.dst=some d)(hw:cJ a9 (fr n l) o=some true)(hd:Nat.blt d n=true)(hk:RU C T a9 r (fr n ((d,u)::l)) X K):RU C T a9 (o::r) (fr n l) X K:=RS.w he (by rw[ho];exact fa hc ht h) hk hw hd
theorem RS.ex{i:Nat}{q:List U}(ho:o.op=.extract x i)(hx:c7 n l x=some (.tup q))(h:nth q i=some u)(he:o.dst=some d)(hw:cJ a9 (fr n l) o=some true)(hd:Nat.blt d n=true)(hk:RU C T a9 r (fr n ((d,u)::l)) X K):RU C T a9 (o::r) (fr n l) X K:=RS.w he (by rw[ho];exact z9t hx h) hk hw hd
theorem RS.un{op:UnOp}{t:TypeId}{v:U}{v1 v2:Value}(ho:o.op=.unOp op t x)(hx:c7 n l x=some v)(h:toV v=some v1)(hu:RI op v1=some v2)(hq:iI v2=some u)(he:o.dst=some d)(hw:cJ a9 (fr n l) o=some true)(hd:Nat.blt d n=true)(hk:RU C T a9 r (fr n ((d,u)::l)) X K):RU C T a9 (o::r) (fr n l) X K:=RS.w he (by rw[ho];exact TL hx h hu hq) hk hw hd
theorem RS.a(ho:o.op=.assign x)(hx:c7 n l x=some u)(he:o.dst=some d)(hw:cJ a9 (fr n l) o=some true)(hd:Nat.blt d n=true)(hk:RU C T a9 r (fr n ((d,u)::l)) X K):RU C T a9 (o::r) (fr n l) X K:=RS.as hw ho hx he hk hd
end
class jU(T:Tb)(t:TypeId)(a b:outParam Nat)(z:outParam Value):Prop where
 h:T.inf t=some (a,b,z)
instance{T:Tb}{t:TypeId}{a b:Nat}{z:Value}[q:jU T t a b z]:SzC T t a:=⟨aZ q.h⟩
class pP(T:Tb)(t:TypeId)(zu:outParam (List U)):Prop where
 h:∃a b z,T.inf t=some (a,b,z)/\pV z.cells.toList=some zu/\okL zu=true
class E5(u:U)(cs:outParam (List U)):Prop where
 h:xT u=some cs
instance{l:List U}:E5 (.agg l) l:=⟨rfl⟩
instance{k:IntKind}{z:Int}:E5 (.int k z) [.int k z]:=⟨rfl⟩
instance{b:Bool}:E5 (.bool b) [.bool b]:=⟨rfl⟩
instance{s:List UInt8}:E5 (.str s) [.str s]:=⟨rfl⟩
instance{t:Bool}{l:List (List U)}:E5 (.isl t l) [.isl t l]:=⟨rfl⟩
instance{k st off:Nat}:E5 (.ptr k st off) [.ptr k st off]:=⟨rfl⟩
instance{k st off n:Nat}:E5 (.vl k st off n) [.vl k st off n]:=⟨rfl⟩
instance{k off n c:Nat}:E5 (.sl k off n c) [.sl k off n c]:=⟨rfl⟩
instance{k:Nat}:E5 (.map k) [.map k]:=⟨rfl⟩
instance{f:Fn}{a c:List U}:E5 (.fn f a c) [.fn f a c]:=⟨rfl⟩
class NK(q:List U)(off n:Nat)(cs:outParam (List U)):Prop where
 h:kS q off n=some cs
instance{q:List U}:NK q 0 0 []:=⟨by simp[kS]⟩
instance{a:U}{q cs:List U}{n:Nat}[s:NK q 0 n cs]:NK (a::q) 0 (n+1) (a::cs):=⟨by
 have:=s.h;unfold kS at*;split at this
 ·next h=>cases this;rw[if_pos (by simp at*;omega)];simp
 cases this⟩
instance(priority:=low){O:Type}{c:O->List U}{x:O}{sz:Nat}[q:fY c sz]:NK (c x) 0 sz (c x):=⟨by
 unfold kS;rw[if_pos (by rw[q.h];omega),List.drop_zero,zW (by rw[q.h];exact zF _)]⟩
class Eo(q:List U)(n:Nat):Prop where
 h:q.length=n
instance:Eo [] 0:=⟨rfl⟩
instance{a:U}{q:List U}{n:Nat}[s:Eo q n]:Eo (a::q) (n+1):=⟨by simp[s.h]⟩
instance(priority:=low){O:Type}{c:O->List U}{x:O}{sz:Nat}[q:fY c sz]:Eo (c x) sz:=⟨q.h x⟩
class LF(q:List U)(off:Nat)(cs:List U)(q':outParam (List U)):Prop where
 h:pU q off cs=some q'
instance{q:List U}:LF q 0 [] q:=⟨by simp[pU]⟩
instance{a b:U}{q cs q':List U}[s:LF q 0 cs q']:LF (a::q) 0 (b::cs) (b::q'):=⟨by
 have:=s.h;unfold pU at*;split at this
 ·next h=>cases this;rw[if_pos (by simp at*;omega)];simp
 cases this⟩
instance{a:U}{q cs q':List U}{o:Nat}[s:LF q o cs q']:LF (a::q) (o+1) cs (a::q'):=⟨by
 have:=s.h;unfold pU at*;split at this
 ·next h=>cases this;rw[if_pos (by simp at*;omega)];simp[show o+1+cs.length=(o+cs.length)+1 by omega]
 cases this⟩
instance(priority:=low){O:Type}{c:O->List U}{x:O}{sz:Nat}{q:List U}[s:fY c sz][t:Eo q sz]:LF q 0 (c x) (c x):=⟨by
 unfold pU;have h1:=s.h x;have h2:=t.h;rw[if_pos (by omega),List.drop_eq_nil_of_le (by omega)];simp⟩
class bw(a b:List U)(c:outParam (List U)):Prop where
 h:a++b=c
instance{b:List U}:bw [] b b:=⟨rfl⟩
instance{x:U}{a b c:List U}[s:bw a b c]:bw (x::a) b (x::c):=⟨by rw[List.cons_append,s.h]⟩
class bk(pl:List (Nat×Nat))(i:Nat)(o s:outParam Nat):Prop where
 h:nth pl i=some (o,s)
instance{o s:Nat}{pl:List (Nat×Nat)}:bk ((o,s)::pl) 0 o s:=⟨rfl⟩
instance{a:Nat×Nat}{i o s:Nat}{pl:List (Nat×Nat)}[q:bk pl i o s]:bk (a::pl) (i+1) o s:=⟨q.h⟩
variable{zu:List U}
variable{q':List U}
variable{cs:List U}
variable{s:Nat}
variable{qs:List (Nat×U)}
theorem z9b{place:Nat->Option (Nat×Nat)}{c0:List U}{i o:Nat}{v:U}(hp:place i=some (o,s))(hc:xT v=some c0)(hl:c0.length=s)(hq:pU zu o c0=some q')(hr:uT place q' qs=some cs):uT place zu ((i,v)::qs)=some cs:=by
 have:Nat.beq c0.length s=true:=by simp[beq_eq,hl]
 simp only[uT,hp,hc,this,zC,hq,hr]
class br(pl:List (Nat×Nat))(zu:List U)(qs:List (Nat×U))(cs:outParam (List U)):Prop where
 h:uT (nth pl) zu qs=some cs
instance{pl:List (Nat×Nat)}{zu:List U}:br pl zu [] zu:=⟨rfl⟩
instance{pl:List (Nat×Nat)}{zu q' cs c0:List U}{i o s:Nat}{v:U}{qs:List (Nat×U)}[p:bk pl i o s][c:E5 v c0][l:Eo c0 s][q:LF zu o c0 q'][r:br pl q' qs cs]:br pl zu ((i,v)::qs) cs:=⟨z9b p.h c.h l.h q.h r.h⟩
class bn(a b:Nat)(c:outParam Nat):Prop where
 h:a*b=c
instance{b:Nat}:bn 0 b 0:=⟨Nat.zero_mul b⟩
instance{b:Nat}:bn 1 b b:=⟨Nat.one_mul b⟩
instance{a:Nat}:bn (a+2) 1 (a+2):=⟨Nat.mul_one _⟩
class bq(s:Nat)(zu:List U)(qs:List (Nat×U))(cs:outParam (List U)):Prop where
 h:uT (fun i=>some (i*s,s)) zu qs=some cs
instance{s:Nat}{zu:List U}:bq s zu [] zu:=⟨rfl⟩
instance{zu q' cs c0:List U}{i o s:Nat}{v:U}{qs:List (Nat×U)}[m:bn i s o][c:E5 v c0][l:Eo c0 s][q:LF zu o c0 q'][r:bq s q' qs cs]:bq s zu ((i,v)::qs) cs:=⟨z9b (by rw[m.h]) c.h l.h q.h r.h⟩
class bi(z:List U)(k:Nat)(zs:outParam (List U)):Prop where
 h:vO z k=zs
instance{z:List U}:bi z 0 []:=⟨rfl⟩
instance{z a b:List U}{k:Nat}[q:bi z k a][p:bw z a b]:bi z (k+1) b:=⟨by
 have:=q.h;have:=p.h;simp only[vO,List.replicate_succ,List.flatten_cons]at*;simp_all⟩
class DeC{O:Type}(c:O->List U)(cs:List U)(x:outParam O):Prop where
 h:c x=cs
instance{k:IntKind}{z:Int}:DeC (cI k) [.int k z] z:=⟨rfl⟩
instance{s:List UInt8}:DeC cS [.str s] s:=⟨rfl⟩
instance{O:Type}{c:O->List U}{l:List O}:DeC (cL c) [.isl false (l.map c)] l:=⟨rfl⟩
instance(priority:=low){O:Type}{c:O->List U}{x:O}:DeC c (c x) x:=⟨rfl⟩
instance(priority:=low){O:Type}{c:O->List U}{x:O}:VV (c x) (c x):=⟨rG.refl _⟩
class y6(T:Tb)(t:TypeId)(zu:outParam (List U))(pl:outParam (List (Nat×Nat))):Prop where
 h:BdT T t zu pl
class SuC(a:Nat)(b:outParam Nat):Prop where
 h:a+1=b
instance:SuC 0 1:=⟨rfl⟩
instance:SuC 1 2:=⟨rfl⟩
instance:SuC 2 3:=⟨rfl⟩
instance:SuC 3 4:=⟨rfl⟩
instance:SuC 4 5:=⟨rfl⟩
instance:SuC 5 6:=⟨rfl⟩
instance:SuC 6 7:=⟨rfl⟩
instance:SuC 7 8:=⟨rfl⟩
instance:SuC 8 9:=⟨rfl⟩
instance:SuC 9 10:=⟨rfl⟩
instance:SuC 10 11:=⟨rfl⟩
instance:SuC 11 12:=⟨rfl⟩
instance:SuC 12 13:=⟨rfl⟩
instance:SuC 13 14:=⟨rfl⟩
class AdC(a b:Nat)(c:outParam Nat):Prop where
 h:a+b=c
instance(priority:=low){a b:Nat}:AdC a b (a+b):=⟨rfl⟩
instance{b:Nat}:AdC 0 b b:=⟨Nat.zero_add b⟩
class bm(a:Nat)(b:outParam Nat):Prop where
 h:a+1=b
instance{a b:Nat}[q:SuC a b]:bm a b:=⟨q.h⟩
instance(priority:=low){a:Nat}:bm a (a+1):=⟨rfl⟩
section
variable{T:Tb}{n:Nat}{l:List (Nat×U)}{h h':List (Nat×B)}{nx nx':Nat}{u v w:U}{op:Op}
variable{e:TypeId}
theorem oAl(ho:op=.alloc e)[z:pP T e zu][hn:SuC nx nx']:bM T ⟨h,nx⟩ (fr n l) op=some (.ptr nx 0 0,⟨(nx,.row zu e)::h,nx'⟩):=by
 subst ho;have z0:=hn.h;subst z0;obtain⟨a,b,q,h1,h2,h3⟩:=z.h;exact qyu h1 h2 h3
variable{x:Operand}
theorem oBx(ho:op=.box e x)(hx:c7 n l x=some v)[c:E5 v cs](hk:okL cs=true)[hn:SuC nx nx']:bM T ⟨h,nx⟩ (fr n l) op=some (.ptr nx 0 0,⟨(nx,.row cs e)::h,nx'⟩):=by
 subst ho;have z0:=hn.h;subst z0;exact ZV hx c.h hk
variable{t:TypeId}
variable{a:Operand}
variable{k:Nat}
variable{off:Nat}
variable{sz:Nat}
variable{q:List U}
theorem oSt(ho:op=.store t a x)(ha:c7 n l a=some (.ptr k 0 off))(hx:c7 n l x=some v)[g:CU h k (.row q e)][s:SzC T t sz][c:E5 v cs][p:LF q off cs q'][w:Em h k (.row q' e) h'](hl:Nat.beq cs.length sz=true)(hk:okL cs=true):bM T ⟨h,nx⟩ (fr n l) op=some (.junk,⟨h',nx⟩):=by
 subst ho;refine qyx s.h ha hx c.h hl hk (q:=q) (q':=q') ?_ ?_ ?_;simp only[cellsOf,g.h];rfl;simp only[GU,g.h];exact p.h;simp only[M2,g.h,w.h]
variable{d:TypeDesc}
theorem oLa(ho:op=.load t x)(hx:c7 n l x=some (.ptr k 0 off))[hd:fI T t d](ha:rP d=true)[g:CU h k (.row q e)][s:SzC T t sz][p:NK q off sz cs]:bM T ⟨h,nx⟩ (fr n l) op=some (.agg cs,⟨h,nx⟩):=by
 subst ho;exact iP hd.h ha s.h hx (by simp only[cellsOf,g.h];rfl) p.h
theorem oLo(ho:op=.load t x)(hx:c7 n l x=some (.ptr k 0 off))[hd:fI T t d](ha:rP d=false)[g:CU h k (.row q e)](hu:nth q off=some u):bM T ⟨h,nx⟩ (fr n l) op=some (u,⟨h,nx⟩):=by
 subst ho;exact oO hd.h ha hx (by simp only[cellsOf,g.h];rfl) hu
theorem oIa(ho:op=.load t x)(hx:c7 n l x=some (.iptr q))[hd:fI T t d](ha:rP d=true)[s:SzC T t sz][p:NK q 0 sz cs]:bM T ⟨h,nx⟩ (fr n l) op=some (.agg cs,⟨h,nx⟩):=by
 subst ho;exact z9o hd.h ha s.h hx p.h
theorem oIo(ho:op=.load t x)(hx:c7 n l x=some (.iptr q))[hd:fI T t d](ha:rP d=false)(hu:nth q 0=some u):bM T ⟨h,nx⟩ (fr n l) op=some (u,⟨h,nx⟩):=by
 subst ho;exact Np hd.h ha hx hu
theorem oFa{f:Nat}{fs:Array Field}{fd:Field}{iH:Nat}(ho:op=.fieldAddr t x f)(hx:c7 n l x=some (.ptr k 0 off))[hd:fI T t (.struct fs)][g:CU h k (.row q e)](hf:nth fs.toList f=some fd)(hs:cN T fd.type=some (s+1))(h2:off+fd.offset=iH):bM T ⟨h,nx⟩ (fr n l) op=some (.ptr k 0 iH,⟨h,nx⟩):=by
 subst ho;exact jW hd.h hf hs hx (by simp only[bU,g.h];rfl) h2
theorem oFi{f:Nat}{fs:Array Field}{fd:Field}(ho:op=.fieldAddr t x f)(hx:c7 n l x=some (.iptr q))[hd:fI T t (.struct fs)](hf:nth fs.toList f=some fd)(hs:cN T fd.type=some (s+1))(hq:q.drop fd.offset=q'):bM T ⟨h,nx⟩ (fr n l) op=some (.iptr q',⟨h,nx⟩):=by
 subst ho;exact ce hd.h hf hs hx hq
variable{O:Type}
variable{c:O->List U}
variable{b:Bool}
variable{xs:List O}
theorem oIx{i:Operand}{k:IntKind}{z:Int}{y:O}(ho:op=.indexAddr t x i)(hx:c7 n l x=some (.isl b (xs.map c)))(hi:c7 n l i=some (.int k z))[hd:fI T t (.slice e)][hs:SzC T e sz][hc:fY c sz](hy:aB xs z=some y):bM T ⟨h,nx⟩ (fr n l) op=some (.iptr (c y),⟨h,nx⟩):=by
 subst ho;exact dX hx hi (Fs c hd.h hs.h hc.h hy rfl)
variable{args:Array Operand}
variable{ts:Array TypeId}
theorem oLe{q:List TypeId}(ho:op=.call { callee:=.builtin .len,args:=args,argTypes:=ts })(ha:args.toList=[x])(ht:ts.toList=t::q)(hx:c7 n l x=some (.isl b (xs.map c)))[hd:fI T t (.slice e)]:bM T ⟨h,nx⟩ (fr n l) op=some (.int .i64 xs.length,⟨h,nx⟩):=by
 subst ho;exact SA ha ht hx (zb4 c hd.h)
theorem oLv{e':TypeId}{q:List TypeId}{K st m:Nat}(ho:op=.call { callee:=.builtin .len,args:=args,argTypes:=ts })(ha:args.toList=[x])(ht:ts.toList=t::q)(hx:c7 n l x=some (.vl K st 0 m))[hd:fI T t (.slice e)][g:CU h K (.vec cs e' sz st)]:bM T ⟨h,nx⟩ (fr n l) op=some (.int .i64 m,⟨h,nx⟩):=by
 subst ho;exact SA ha ht hx (z9n hd.h g.h)
theorem oBd{pl:List (Nat×Nat)}{ps:Array (Nat×Operand)}(ho:op=.build t ps)[q:y6 T t zu pl](he:I3 n l ps.toList=some qs)(c:br pl zu qs cs)(hk:okL cs=true):bM T ⟨h,nx⟩ (fr n l) op=some (.agg cs,⟨h,nx⟩):=by
 subst ho;exact zw q.h he c.h hk
variable{z:Value}
theorem oBs{b:Nat}{zs:List U}{ps:Array (Nat×Operand)}(ho:op=.buildSlice t k ps)(he:I3 n l ps.toList=some qs)[hd:fI T t (.slice e)][hi:jU T e sz b z][hz:pP T e zu](zc:bi zu k zs)(c:bq sz zs qs cs)(hk:okL cs=true)(h1:Nat.ble (k*sz) 16777216=true)(h2:Nat.ble k 16777216=true)(h3:Nat.beq z.cells.toList.length sz=true)(hn:SuC nx nx'):bM T ⟨h,nx⟩ (fr n l) op=some (.sl nx 0 k k,⟨(nx,.row cs e)::h,nx'⟩):=by
 subst ho;have z0:=hn.h;subst z0;obtain⟨a,b',q,g1,g2,g3⟩:=hz.h;have e1:=hi.h;rw[g1]at e1;cases e1;exact uA hd.h hi.h he h1 h2 h3 g2 (by rw[zc.h];exact c.h) hk
variable{X:Sg}
theorem oMv(ho:op=.move x)(hx:c7 n l x=some u):bM T X (fr n l) op=some (u,X):=by subst ho;exact iQ hx
theorem oAs(ho:op=.assign x)(hx:c7 n l x=some u):bM T X (fr n l) op=some (u,X):=by subst ho;exact ip hx
variable{y:Operand}
theorem oIn{b:BinOp}{t':TypeId}{k k':IntKind}{i j:Int}{r:Value}(ho:op=.binOp b t x y t')(hx:c7 n l x=some (.int k i))(hy:c7 n l y=some (.int k' j))[q:LG b k i k' j r](hr:iI r=some u):bM T X (fr n l) op=some (u,X):=by subst ho;exact vP hx hy q.h hr
theorem oP1{c b:Operand}{t:Bool}(ho:op=.pick c a b)(hc:c7 n l c=some (.bool t))(ht:t=true)(hu:c7 n l a=some u):bM T X (fr n l) op=some (u,X):=by subst ho;exact dz hc ht hu
theorem oP0{c b:Operand}{t:Bool}(ho:op=.pick c a b)(hc:c7 n l c=some (.bool t))(ht:t=false)(hu:c7 n l b=some u):bM T X (fr n l) op=some (u,X):=by subst ho;exact fa hc ht hu
theorem oEx{i:Nat}(ho:op=.extract x i)(hx:c7 n l x=some (.tup q))(hu:nth q i=some u):bM T X (fr n l) op=some (u,X):=by subst ho;exact z9t hx hu
theorem oUn{b:UnOp}{v1 v2:Value}(ho:op=.unOp b t x)(hx:c7 n l x=some v)(h1:toV v=some v1)(h2:RI b v1=some v2)(hq:iI v2=some u):bM T X (fr n l) op=some (u,X):=by subst ho;exact TL hx h1 h2 hq
theorem oAp{xt e1 e2:TypeId}{a st cR K s0 s1 by_:Nat}{yv:O}{cs':List U}(ho:op=.call { callee:=.builtin .append,args:=args,argTypes:=ts })(ha:args.toList=[x,y])(ht:ts.toList=[t,xt])(hx:c7 n l x=some (.vl a st 0 xs.length))(hy:c7 n l y=some (.sl K 0 1 1))[d1:fI T t (.slice e)][d2:fI T xt (.slice e2)][g:CU h a (.vec (xs.map c).flatten e s0 st)][i:jU T e s1 by_ z][g2:CU h K (.row q e1)][s:NK q 0 s1 cs][w:VV cs cs'][d:DeC c cs' yv][lc:fY c s1][w_:bm st cR][ug:Em h a (.vec (List.map c (xs++[yv])).flatten e s1 cR) h'](UA:s0=s1)(hp:Nat.ble 1 s1=true)(hc:rN cs=(List.map c [yv]).flatten)(hz:Nat.beq z.cells.toList.length s1=true)(hr:(xs.length+1)*by_<=140737488355328/\xs.length+1<=140737488355328):bM T ⟨h,nx⟩ (fr n l) op=some (.vl a cR 0 (xs++[yv]).length,⟨h',nx⟩):=by
 subst ho;subst UA;obtain⟨sz,rfl⟩:∃sz,s0=sz+1:=⟨s0-1,by have:=zY hp;omega⟩;have e1:=w_.h;subst e1;have:=uU (X:=⟨h,nx⟩) ha ht hx hy (SC c [yv] d1.h d2.h i.h hz lc.h g.h (Ob c [yv] (q:=q) (by simp only[rowOf,g2.h]) (by rw[Nat.one_mul];exact s.h) rfl hc) hr);rw[ug.h]at this;exact this
theorem oAq{xt e2:TypeId}{a st cR s0 s1 by_:Nat}{ys:List O}(ho:op=.call { callee:=.builtin .append,args:=args,argTypes:=ts })(ha:args.toList=[x,y])(ht:ts.toList=[t,xt])(hx:c7 n l x=some (.vl a st 0 xs.length))(hy:c7 n l y=some (.isl b (ys.map c)))[d1:fI T t (.slice e)][d2:fI T xt (.slice e2)][g:CU h a (.vec (xs.map c).flatten e s0 st)][i:jU T e s1 by_ z][lc:fY c s1][w_:bm st cR][ug:Em h a (.vec (List.map c (xs++ys)).flatten e s1 cR) h'](UA:s0=s1)(hp:Nat.ble 1 s1=true)(hz:Nat.beq z.cells.toList.length s1=true)(hr:(xs.length+ys.length)*by_<=140737488355328/\xs.length+ys.length<=140737488355328):bM T ⟨h,nx⟩ (fr n l) op=some (.vl a cR 0 (xs++ys).length,⟨h',nx⟩):=by
 subst ho;subst UA;obtain⟨sz,rfl⟩:∃sz,s0=sz+1:=⟨s0-1,by have:=zY hp;omega⟩;have e1:=w_.h;subst e1;have:=uU (X:=⟨h,nx⟩) ha ht hx hy (SC c ys d1.h d2.h i.h hz lc.h g.h (H7 c lc.h) hr);rw[ug.h]at this;exact this
end
variable{A:Prop}
theorem opx (h:A:=by first
 |exact Go.Vx.oIo rfl rfl rfl rfl
 |exact Go.Vx.oLo rfl rfl rfl rfl
 |exact Go.Vx.oFi rfl rfl (by exact rfl) (by exact Go.Vx.SzC.h) (by exact rfl)
 |exact Go.Vx.oFa rfl rfl (by exact rfl) (by exact Go.Vx.SzC.h) (by exact Go.Vx.AdC.h)
 |exact Go.Vx.oLa rfl rfl rfl
 |exact Go.Vx.oIa rfl rfl rfl
 |exact Go.Vx.oLe rfl rfl rfl rfl
 |exact Go.Vx.oLv rfl rfl rfl rfl
 |exact Go.Vx.oBx rfl rfl rfl
 |exact Go.Vx.oAl rfl
 |exact Go.Vx.oSt rfl rfl rfl rfl rfl
 |exact Go.Vx.oBd rfl rfl (by exact inferInstance) rfl):A:=h
theorem opy (h:A:=by first
 |exact Go.Vx.oMv rfl rfl
 |exact Go.Vx.oAs rfl rfl
 |exact Go.Vx.oIn rfl rfl rfl rfl
 |exact Go.Vx.oEx rfl rfl rfl
 |exact Go.Vx.oP1 rfl rfl (by first |with_reducible_and_instances assumption |exact rfl) rfl
 |exact Go.Vx.oP0 rfl rfl (by first |with_reducible_and_instances assumption |exact rfl) rfl
 |exact Go.Vx.oUn rfl rfl rfl rfl rfl
 |exact Go.Vx.opx):A:=h
theorem opz (h:A:=by first
 |exact Go.Vx.oBs rfl rfl (by exact inferInstance) (by exact inferInstance) rfl rfl rfl rfl (by exact inferInstance)
 |exact Go.Vx.oAp rfl rfl rfl rfl rfl rfl rfl rfl rfl (by with_reducible assumption)
 |exact Go.Vx.oAq rfl rfl rfl rfl rfl rfl rfl rfl (by with_reducible assumption)
 |exact Go.Vx.opx):A:=h
section
variable{T:Tb}{a9 r:List Oper}{o:Oper}{n:Nat}{l:List (Nat×U)}{X X':Sg}{u:U}
variable{C:PG}
variable{K:List U->Sg->Prop}
variable{d:Tmp}
theorem bR(hk:RU C T a9 r (fr n ((d,u)::l)) X' K)(h:bM T X (fr n l) o.op=some (u,X'):=by exact Go.Vx.opz)(he:o.dst=some d:=by exact rfl)(hw:cJ a9 (fr n l) o=some true:=by exact Go.Vx.wA)(hd:Nat.blt d n=true:=by exact rfl):RU C T a9 (o::r) (fr n l) X K:=RS.op hw h he hd hk
variable{P:Program}
variable{aX:List RK}
variable{K:List RK->List U->Sg->Prop}
theorem eC(hk:RH P T a9 r (fr n ((d,u)::l)) X' ((3,⟨fr n l,o,u,true,true,X,X'⟩)::aX) K)(h:bM T X (fr n l) o.op=some (u,X'):=by exact Go.Vx.opz)(he:o.dst=some d:=by exact rfl)(hw:cJ a9 (fr n l) o=some true:=by exact Go.Vx.wA)(hd:Nat.blt d n=true:=by exact rfl):RH P T a9 (o::r) (fr n l) X aX K:=RD.act hw h he hd hk
theorem qJ(hk:RH P T a9 r (fr n l) X' ((3,⟨fr n l,o,u,true,true,X,X'⟩)::aX) K)(h:bM T X (fr n l) o.op=some (u,X'):=by exact Go.Vx.opz)(he:o.dst=none:=by exact rfl)(hw:cJ a9 (fr n l) o=some true:=by exact Go.Vx.wA):RH P T a9 (o::r) (fr n l) X aX K:=RD.actn hw h he hk
theorem RD.ou(hk:RH P T a9 r (fr n ((d,u)::l)) X ((1,⟨fr n l,o,u,false,false,X,X⟩)::aX) K)(h:bM T X (fr n l) o.op=some (u,X):=by exact Go.Vx.opy)(he:o.dst=some d:=by exact rfl)(hw:cJ a9 (fr n l) o=some true:=by exact Go.Vx.wA)(hd:Nat.blt d n=true:=by exact rfl):RH P T a9 (o::r) (fr n l) X aX K:=RD.look hw h he hd hk
theorem RD.nt{d':Tmp}{j:Nat}{b:Bool}(hg:o.guard=some (j,true))(hj:BM a9 j=some d')(hl:c7 n l (.tmp d')=some (.bool b))(hb:b=false)(he:o.dst=some d)(hk:RH P T a9 r (fr n ((d,.tup [])::l)) X ((0,⟨fr n l,o,.tup [],false,false,X,X⟩)::aX) K)(hd:Nat.blt d n=true:=by exact rfl):RH P T a9 (o::r) (fr n l) X aX K:=RD.no (qn hg hj hl hb) he hd hk
theorem RD.nf{d':Tmp}{j:Nat}{b:Bool}(hg:o.guard=some (j,false))(hj:BM a9 j=some d')(hl:c7 n l (.tmp d')=some (.bool b))(hb:b=true)(he:o.dst=some d)(hk:RH P T a9 r (fr n ((d,.tup [])::l)) X ((0,⟨fr n l,o,.tup [],false,false,X,X⟩)::aX) K)(hd:Nat.blt d n=true:=by exact rfl):RH P T a9 (o::r) (fr n l) X aX K:=RD.no (qn hg hj hl hb) he hd hk
theorem aY{K:List U->Sg->Prop}{O:Type}{xs:List O}{z:Int}{y:O}(hy:aB xs z=some y)(hk:RU C T a9 r (fr n ((d,u)::l)) X K)(h:aB xs z=some y->bM T X (fr n l) o.op=some (u,X):=by intro hy;exact Go.Vx.oIx rfl rfl rfl hy)(he:o.dst=some d:=by exact rfl)(hw:cJ a9 (fr n l) o=some true:=by exact Go.Vx.wA)(hd:Nat.blt d n=true:=by exact rfl):RU C T a9 (o::r) (fr n l) X K:=RS.op hw (h hy) he hd hk
theorem cA{O:Type}{xs:List O}{z:Int}{y:O}(hy:aB xs z=some y)(hk:RH P T a9 r (fr n ((d,u)::l)) X ((1,⟨fr n l,o,u,false,false,X,X⟩)::aX) K)(h:aB xs z=some y->bM T X (fr n l) o.op=some (u,X):=by intro hy;exact Go.Vx.oIx rfl rfl rfl hy)(he:o.dst=some d:=by exact rfl)(hw:cJ a9 (fr n l) o=some true:=by exact Go.Vx.wA)(hd:Nat.blt d n=true:=by exact rfl):RH P T a9 (o::r) (fr n l) X aX K:=RD.look hw (h hy) he hd hk
theorem RS.ou{K:List U->Sg->Prop}(hk:RU C T a9 r (fr n ((d,u)::l)) X' K)(h:bM T X (fr n l) o.op=some (u,X'):=by exact Go.Vx.opx)(he:o.dst=some d:=by exact rfl)(hw:cJ a9 (fr n l) o=some true:=by exact Go.Vx.wA)(hd:Nat.blt d n=true:=by exact rfl):RU C T a9 (o::r) (fr n l) X K:=RS.op hw h he hd hk
theorem RS.oz{K:List U->Sg->Prop}(hk:RU C T a9 r (fr n l) X' K)(h:bM T X (fr n l) o.op=some (u,X'):=by exact Go.Vx.opx)(he:o.dst=none:=by exact rfl)(hw:cJ a9 (fr n l) o=some true:=by exact Go.Vx.wA):RU C T a9 (o::r) (fr n l) X K:=NF hw h he hk
end
theorem gd{B:Prop}(h:B) (g:Hd B->A:=by
 intro h
 repeat' first
  |(refine Go.Vx.RD.nt rfl rfl rfl ?_ rfl ?_;· first |with_reducible_and_instances assumption |exact rfl)
  |(refine Go.Vx.RD.nf rfl rfl rfl ?_ rfl ?_;· first |with_reducible_and_instances assumption |exact rfl)
  |refine Go.Vx.RD.ou ?_
 exact h.h):A:=g ⟨h⟩
theorem gs{B: Prop}(h:B) (g:Hd B->A:=by
  intro h
  first
    |refine Go.Vx.gq ?_
    |with_reducible refine Go.Vx.sq ?_
    |with_reducible refine Go.Vx.WPU.skip ?_
    |with_reducible refine Go.Vx.RS.done ?_
    |with_reducible refine Go.Vx.WPU.ret ?_
    |with_reducible refine Go.Vx.WPU.exit ?_
    |(refine Go.Vx.RS.nt rfl rfl rfl ?_ rfl rfl ?_;· first |with_reducible_and_instances assumption |exact rfl)
    |(refine Go.Vx.RS.nf rfl rfl rfl ?_ rfl rfl ?_;· first |with_reducible_and_instances assumption |exact rfl)
    |(refine Go.Vx.RS.mo rfl rfl rfl ?_ rfl ?_;· exact Go.Vx.wA)
    |(refine Go.Vx.RS.in rfl rfl rfl rfl rfl ?_ rfl ?_;· exact Go.Vx.wA)
    | (refine Go.Vx.RS.p1 rfl rfl ?_ rfl rfl ?_ rfl ?_; · first | with_reducible_and_instances assumption | exact rfl
       exact Go.Vx.wA)
    | (refine Go.Vx.RS.p0 rfl rfl ?_ rfl rfl ?_ rfl ?_; · first | with_reducible_and_instances assumption | exact rfl
       exact Go.Vx.wA)
    |(refine Go.Vx.RS.a rfl rfl rfl ?_ rfl ?_;· exact Go.Vx.wA)
    |(refine Go.Vx.RS.ex rfl rfl rfl rfl ?_ rfl ?_;· exact Go.Vx.wA)
    |(refine Go.Vx.RS.un rfl rfl rfl rfl rfl rfl ?_ rfl ?_;· exact Go.Vx.wA)
    |refine Go.Vx.RS.ou ?_
    |refine Go.Vx.RS.oz ?_
  exact h.h):A:=g ⟨h⟩
theorem go{B:Prop}(h:B)(g:Hd B->A:=by intro h;(repeat' first |refine Go.Vx.gs ?_ |refine Go.Vx.rg1 rfl ?_);exact h.h):A:=g ⟨h⟩
theorem gn{B:Prop}(h:B)(g:Hd B->A:=by intro h;(repeat' refine Go.Vx.gs ?_);exact h.h):A:=g ⟨h⟩
theorem gr{B:Prop}(h:B)(g:Hd B->A:=by intro h;refine Go.Vx.gn ?_;refine Go.Vx.rg1 rfl ?_;refine Go.Vx.gn ?_;exact h.h):A:=g ⟨h⟩
theorem gx{O:Type}{a b:O}(h:some a=some b)(g:a=b->A:=by intro e;subst e;refine Go.Vx.go ?_;exact Go.Vx.rt1 rfl rfl rfl rfl):A:=g (sI h)
theorem gy{O:Type}{a b:O}(h:some a=some b)(g:a=b->A:=by intro e;subst e;refine Go.Vx.go ?_;exact Go.Vx.xC ⟨rfl,rfl⟩):A:=g (sI h)
theorem gB{β:Type}{t:Bool}{a b r:Option β}(h:cond t a b=r):(t=true/\a=r)\/(t=false/\b=r):=by cases t;exact .inr ⟨rfl,h⟩;exact .inl ⟨rfl,h⟩
abbrev B.bv{O:Type}(c:O->List U)(l:List O)(e:TypeId)(sz st:Nat):B:=.vec (l.map c).flatten e sz st
abbrev d5(P:Program)(f:FuncId)(args:List U)(u:U):Prop:=bE P f args ⟨[],0⟩ (fun u' _=>u'=u/\bB 0 u')
section
variable{C:PG}{n0 n:Nat}{Q:Exit->List U->Sg->Prop}{l:List (Nat×U)}{h:List (Nat×B)}{nx:Nat}{c:Code}
theorem gV(i:Nat)(e:TypeId)(sz n1:Nat)(hw:WPU C n0 c (fr n ((i,.vl nx 0 0 0)::l)) ⟨(nx,.vec [] e sz 0)::h,n1⟩ Q)(hi:c7 n l (.tmp i)=some .nils:=by exact rfl)(hs:Nat.blt 0 sz=true:=by exact rfl)(hn:nx+1=n1:=by exact rfl)(h0:n0<=nx:=by first |exact Nat.zero_le _ |exact zY rfl)(hd:dOk n (some i)=true:=by exact rfl):WPU C n0 c (fr n l) ⟨h,nx⟩ Q:=by
 subst hn;refine cE (Gh.nilS i e sz ?_ h0 hi hd) (Nat.le_succ_of_le h0) hw;exact Nat.lt_of_succ_le (zY hs)
theorem gL{l':List (Nat×U)}{X:Sg}{id:Nat}(I:Nat->List U->Sg->Prop)(E:List U->Sg->Prop)(k:Nat)(h0:I k (fr n l') X)
  (out:∀tm X,E tm X->Q .normal tm X)
  (round:∀m tm X,I m tm X->WPU C n0 c tm X (ET (fun tm' X'=>∃n' jH bZ,n'<m/\I n' jH bZ/\n0<=bZ.nx/\Gh n0 tm' X' jH bZ) (BO id (S4 n0 E Q))))
  (hn:n0<=X.nx:=by first |exact Nat.zero_le _ |exact zY rfl) (ht:HX l l':=by((repeat refine⟨rfl,?_⟩);exact trivial)):WPU C n0 (.block id (.loop c)) (fr n l) X Q:=cE (Gh.sub ht) hn (WPU.loopK I E k h0 out round)
theorem dE{T:Tb}[t:bj C T]{tm:List U}{X:Sg}{id:Nat}{a9:Array Oper}(pr:List (Nat×Nat))(h:RH C.prog T a9.toList a9.toList tm X [] (fun ks tm' X'=>Zh a9.toList (ks.reverse.map (·.1)) pr=true/\Y7 T ks.reverse pr/\Q .normal tm' X'))(bY:MI a9.toList=true:=by kernel_rfl):WPU C n0 (.region id a9 true) tm X Q:=WPU.drawE t.ok pr bY h
end
theorem gF{β:Type}{t:Bool}{a b r:Option β}{A A1 A2:Prop}(J:cond t a b=r)(h1:t=true->a=r->A1)(h2:t=false->b=r->A2) (g:cond t a b=r->Hd (t=true->a=r->A1)->Hd (t=false->b=r->A2)->A:=by
 intro e h k;refine Go.Vx.go ?_;exact Go.Vx.cF e h.h k.h):A:=g J ⟨h1⟩ ⟨h2⟩
end Go.Vx
