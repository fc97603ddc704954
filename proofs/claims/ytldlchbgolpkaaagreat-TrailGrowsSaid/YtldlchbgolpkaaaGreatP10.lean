import Derived.Test.YtldlchbgolpkaaaGreatP9
set_option linter.all false
namespace Go.Vx
open Go Go.Rx
def stF:I Nat->Nat->Nat
 |[],_=>0|a::_,0=>a
 |_::l,i+1=>stF l i
def bg:I Nat->Nat->Bool
 |[],_=>true|a::l,nx=>cond (I1 l a) false (cond (Nat.blt a nx) (bg l nx) false)
def z55:∀{l:I Nat}{nx:Nat},bg l nx=true->l.Nodup/\∀k∈l,k<nx
 |[],nx,_=>⟨List.nodup_nil,fun k h=>by cases h⟩|a::l,nx,h=>by
  simp only[bg]at h;cases h1:I1 l a with
  |true=>rw[h1]at h;cases h|false=>rw[h1,zD]at h;rcases h2:Nat.blt a nx with _|_;rw[h2]at h;cases h;rw[h2,zC]at h;have⟨q1,q2⟩:=z55 h;refine⟨List.nodup_cons.2 ⟨fun hm=>?_,q1⟩,fun k hk=>?_⟩;rw[(jt l a).2 hm]at h1;cases h1;rcases zI.1 hk with rfl |hk;exact zY h2;exact q2 k hk
def xf(N:Nat):I (Nat×B)->Bool
 |[]=>true|(k,_)::h=>cond (Nat.blt k N) (xf N h) false
def LO(ns:I Nat)(nx:Nat)(h:I (Nat×B)):I (Nat×B)->Prop
 |[]=>True|(k,b)::r=>gt h (nm ns nx k)=some (rB (nm ns nx) b)/\LO ns nx h r
def zau{ns:I Nat}{nx N:Nat}{h:I (Nat×B)}:∀{h0:I (Nat×B)},LO ns nx h h0->xf N h0=true->GH N h0->∀k b,gt h0 k=some b->k<N/\BelB N b/\gt h (nm ns nx k)=some (rB (nm ns nx) b)
 |[],_,_,_,k,b,hg=>by cases hg
 |(j,c)::h0,hh,hk,hb,k,b,hg=>by simp[LO]at hh;simp only[xf]at hk;rcases h2:Nat.blt j N with _|_;rw[h2]at hk;cases hk;rw[h2,zC]at hk;simp[GH]at hb;simp[gt,beq_eq]at hg;by_cases e:j=k;subst e;simp[yC,zC,zA]at hg;subst hg;exact⟨zY h2,hb.1,hh.1⟩;simp[e,yB,zD]at hg;exact zau hh.2 hk hb.2 k b hg
def Ga(Z:Nat->Nat)(l:I U)[q:fB 0 l]:jG Z l=l:=MH Z l q.h
def SM{v11:Type}(Z:Nat->Nat)(c:v11->I U)(l:I v11)[q:BF c]:y4 Z (l.map c)=l.map c:=ni Z _ (uL c (q.h 0) l)
def ww{K v09:Type}(Z:Nat->Nat)(kU:K->U)(vU:v09->U)(es:I (K×v09×Nat))[p:Lo kU][q:Lo vU]:(es.map (mE kU vU)).map (rM Z)=es.map (mE kU vU):=by rw[List.map_map];refine List.map_congr_left fun e _=>?_;simp[Function.comp,mE,rM,ft Z _ (p.h 0 _),ft Z _ (q.h 0 _)]
def LS(ns:I Nat)(nx N:Nat)(h:I (Nat×B)):I (Nat×B)->I (Nat×B)
 |[]=>h|(k,b)::r=>cond (Nat.blt k N) (ug (LS ns nx N h r) (nm ns nx k) (rB (nm ns nx) b)) ((nm ns nx k,rB (nm ns nx) b)::LS ns nx N h r)
def R2(N:Nat)(h:I (Nat×B)):Bool:=(List.range N).all fun k=>(gt h k).isSome
def z3v{ns:I Nat}{nx N:Nat}{h:I (Nat×B)}(hl:ns.length=N)(hi:∀i j,nm ns nx i=nm ns nx j->i=j)(DG:∀k,k<N->(gt h (nm ns nx k)).isSome=true)(iB:∀k,N<=k->gt h (nm ns nx k)=none):∀(r:I (Nat×B))(k:Nat),gt (LS ns nx N h r) k=match gt (AG ns nx r) k with
  |some b=>some b|none=>gt h k
 |[],k=>by simp[LS,AG,gt]
 |(j,b)::r,k=>by
  have ih:=z3v hl hi DG iB r;simp[LS,AG,eA];cases hj:Nat.blt j N with
  |true=>
   have hjN:j<N:=zY hj;simp[zC,BN];by_cases e:nm ns nx j=k;subst e;have hs:=DG j hjN;have:(gt (LS ns nx N h r) (nm ns nx j)).isSome=true:=by rw[ih];split<;>simp_all
   rcases hg:gt (LS ns nx N h r) (nm ns nx j)with _|c;rw[hg]at this;cases this;simp;simp[e,ih]
  |false=>simp[zD,eA];by_cases e:nm ns nx j=k;simp[e];simp[e,ih]
def bE.st{P:Program}{f:FuncId}{args0 args:I U}{h0:I (Nat×B)}{N N1:Nat}{U0 U1:(Nat->Nat)->U}{h1:(Nat->Nat)->I (Nat×B)}{S1:(Nat->Nat)->Sg}(ns:I Nat){O:Sg}
  (h:bE P f args0 ⟨h0,N⟩ (fun u O'=>∃t:Nat->Nat,u=U0 t/\O'=⟨h1 t,N1⟩)) [ha:fB N args0] [hb:BH N h0]
  (hn:bg ns O.nx=true:=by rfl) (hN:ns.length=N:=by rfl) (hk:xf N h0=true:=by rfl) (fA:R2 N h0=true:=by rfl) (hal1:∀t,R2 N (h1 t)=true:=by intro t;rfl)
  (hh:LO ns O.nx O.h h0:=by simp only[LO,gt,Nat.beq,zC,zD,nm,rB,Ga,jG,rU,SM,ww,and_true,true_and]<;>first |rfl |exact⟨rfl,trivial⟩|exact⟨rfl,rfl,trivial⟩|exact⟨rfl,rfl⟩)
  (dB:jG (nm ns O.nx) args0=args:=by(simp only[nm,Ga,jG,rU,SM])<;>rfl)
  (hU:∀t,rU (nm ns O.nx) (U0 t)=U1 t:=by(intro t;simp only[nm,Ga,jG,rU,SM])<;>rfl)
  (hS:∀t,(⟨LS ns O.nx N O.h (h1 t),O.nx+(N1-N)⟩:Sg)=S1 t:=by(intro t;simp only[LS,Nat.blt,Nat.ble,Nat.sub_self,Nat.add_zero,Nat.reduceAdd,Nat.reduceSub,ug,Nat.beq,zC,zD,nm,rB,Ga,jG,rU,SM,ww])<;>rfl):
  bE P f args O (fun u O'=>∃t:Nat->Nat,u=U1 t/\O'=S1 t):=by
 subst hN;have⟨g1,g2⟩:=z55 hn;have jC:=zau hh hk hb.h;have hi:∀i j,nm ns O.nx i=nm ns O.nx j->i=j:=fun i j h=>zaf g1 g2 h;have hA:∀{h:I (Nat×B)},R2 ns.length h=true->∀k,k<ns.length->(gt h k).isSome=true:=fun{h} he k hk=>by unfold R2 at he;rw[List.all_eq_true]at he;exact he k (List.mem_range.2 hk)
 have DG:∀k,k<ns.length->(gt O.h (nm ns O.nx k)).isSome=true:=fun k hk=>by have:=hA fA k hk;rcases hg:gt h0 k with _|b;rw[hg]at this;cases this;rw[(jC k b hg).2.2];rfl
 intro F x vs m w bI hx hh' mJ he fT wX;have iB:∀k,ns.length<=k->gt O.h (nm ns O.nx k)=none:=fun k hk=>by rcases hg:gt O.h (nm ns O.nx k)with _|b;rfl;have h2:=(hh'.ok (nm ns O.nx k) b (by rw[hx];exact hg)).1;rw[hx,M9 ns O.nx k hk]at h2;omega
 have h3:=bE.frame ns h O g1 g2 ha.h jC;rw[dB]at h3;have h4:bE P f args O (fun u O'=>∃t:Nat->Nat,u=U1 t/\O'=S1 t):=bE.post h3 ?_;exact h4 F x vs m w bI hx hh' mJ he fT wX;rintro u O' ⟨u0,R6,⟨t,rfl,rfl⟩,oN,rfl,rfl⟩;refine⟨U1 t,S1 t,?_,?_,t,rfl,rfl⟩;rw[<-hS t];exact Nat.le_add_right _ _;rw[<-hS t,<-hU t];refine Gh.same (n0:=O.nx) (tm:=[rU (nm ns O.nx) (U0 t)]) (O:=Yk ns O ⟨h1 t,N1⟩) (LS ns O.nx ns.length O.h (h1 t)) (fun k=>?_);show _=gt (AG ns O.nx (h1 t)++IV ns O.h) k;rw[z3v rfl hi DG iB,d_,Pr];cases hg:gt (AG ns O.nx (h1 t)) k with
 |some b=>rfl|none=>by_cases cj:k∈ns;exfalso;have⟨j,hj,e⟩:=List.getElem_of_mem cj;have⟨_,e2⟩:=IT ns O.nx j hj;rw[e]at e2;rw[<-e2,ii hi]at hg;have:=hA (hal1 t) j hj;rcases NH:gt (h1 t) j with _|c;rw[NH]at this;cases this;rw[NH]at hg;cases hg;rw[if_neg cj]
variable{n:Nat}
def zcf{F:Nat->lU->Prop}{y:Cx}{K:Nat}{l:I U}{e:X}{sz t:Nat}{h:I (Nat×B)}(hy:y.O=⟨(K,.vec l e sz t)::h,K+1⟩)(hh:kM y)(hf:Fr F y)(hb:∀k b,gt h k=some b->k<K/\BelB K b)(hl:aL 0 l):
  ∃y':Cx,y'.O=⟨(K,.vec l e sz 0)::h,K+1⟩/\y'.s=y.s/\kM y'/\Fr F y'/\Ke K y y'/\∀v,aD y (.vl K t 0 n) v->aD y' (.vl K 0 0 n) v:=by
 have gy:∀j,gt y.O.h j=if K=j then some (.vec l e sz t)else gt h j:=fun j=>by rw[hy];exact eA _ _ _ _
 have HO:∀j,gt ((K,B.vec l e sz 0)::h) j=if K=j then some (.vec l e sz 0)else gt h j:=fun j=>eA _ _ _ _;have jT:y.O.nx=K+1:=by rw[hy]
 let y':Cx:=⟨y.Y,⟨(K,.vec l e sz 0)::h,K+1⟩,y.s⟩
 have gD:Mo K y y':=by refine⟨fun j h1 h2=>⟨by show j<K+1;omega,fun b' cV=>?_⟩,fun _ _ _ h=>h⟩;have rK:gt ((K,B.vec l e sz 0)::h) j=some b':=cV;rw[HO,if_neg (by omega)]at rK;exact⟨b',by rw[gy,if_neg (by omega)];exact rK,zF _,fun _=>⟨rfl,fun l e sz st h=>⟨l,h⟩⟩⟩
 refine⟨y',rfl,rfl,⟨fun j b hbj=>?_,fun j j' b b' i hbj hbj' h1 h2=>?_,hh.bd⟩,fun i b J=>?_,gD.ke,fun v hv=>?_⟩;have rK:gt ((K,B.vec l e sz 0)::h) j=some b:=hbj;rw[HO]at rK;by_cases e1:K=j;subst e1;rw[if_pos rfl]at rK;cases rK;refine⟨by show K<K+1;omega,?_⟩;have⟨_,q1,q2,q3⟩:=hh.ok K (.vec l e sz t) (by rw[gy,if_pos rfl]);refine⟨q1,q2,?_⟩;rcases q3 with q3 |⟨i,l',r1,r2,r3⟩;exact .inl q3;exact .inr ⟨i,l',r1,r2,gD.ke.E (aL.le (Nat.zero_le _) l hl) r3⟩;rw[if_neg e1]at rK;have⟨h1,h2⟩:=hb j b rK;refine⟨by show j<K+1;omega,?_⟩;exact(hh.ok j b (by rw[gy,if_neg e1];exact rK)).2.monoB h2 gD rfl fun _ _ _ h=>h
 have key:∀j b,gt ((K,B.vec l e sz 0)::h) j=some b->∃c,gt y.O.h j=some c:=fun j b hb=>by rw[HO]at hb;by_cases e1:K=j;exact⟨_,by rw[gy,if_pos e1]⟩;rw[if_neg e1]at hb;exact⟨b,by rw[gy,if_neg e1];exact hb⟩
 have⟨c,g1⟩:=key j b hbj;have⟨c',g2⟩:=key j' b' hbj';exact hh.inj j j' c c' i g1 g2 h1 h2;have⟨h1,h2⟩:=hf i b J;refine⟨h1,fun j c hc=>?_⟩;have Cq:gt ((K,B.vec l e sz 0)::h) j=some c:=hc;rw[HO]at Cq;by_cases e1:K=j;exact h2 j _ (by rw[gy,if_pos e1]);rw[if_neg e1]at Cq;exact h2 j c (by rw[gy,if_neg e1];exact Cq);simp only[aD]at hv ⊢;refine⟨hv.1,by show K<K+1;omega,fun b hb=>?_⟩;have rK:gt ((K,B.vec l e sz 0)::h) K=some b:=hb;rw[HO,if_pos rfl]at rK;cases rK;obtain⟨_,g2⟩:=hv.2.2 (.vec l e sz t) (by rw[gy,if_pos rfl]);obtain⟨l2,e2,sz2,g3,g4⟩:=g2 rfl;cases g3;exact⟨zF _,fun _=>⟨l,e,sz,rfl,g4⟩⟩
def zn{v11:Type}(c:v11->I U){P:Program}{f:FuncId}{ys:I v11}{e:X}{sz:Nat}{a7:I U}[hc:BF c][ha:fB 0 a7]{k:Nat}
  (h:bE P f a7 ⟨[],0⟩ (fun u O'=>∃t',u=.vl k t' 0 ys.length/\O'=⟨[(k,.vec (ys.map c).flatten e sz t')],k+1⟩)) (O:Sg) (K:Nat) (hK:O.nx+k=K):
  bE P f a7 O (fun u O'=>u=.vl K 0 0 ys.length/\O'=⟨(K,.vec (ys.map c).flatten e sz 0)::O.h,K+1⟩):=fun F x vs m w bI hx hh mJ he fT dB=>by
 have h1:=bE.own1 c h O K hK;refine(h1 F x vs m w bI hx hh mJ he fT dB).mono ?_;rintro e' w₁ ⟨y,aH,u,v,cv,q1,⟨t',rfl,q3⟩,q4,q5,q6,q7,q8,q9,q10⟩;obtain⟨y',z1,z2,z3,z4,z5,z6⟩:=zcf (F:=F) q3 q6 q7 (fun k b hb=>by
  have:=hh.ok k b (by rw[hx];exact hb);rw[hx]at this;refine⟨by omega,?_⟩;have KQ:=this.2.belB;rw[hx]at KQ;cases b with
  |row l e=>exact aL.le (by omega) l KQ|vec l e s st=>exact aL.le (by omega) l KQ
  |map es cl=>exact fun e he=>⟨bC.le (by omega) _ (KQ e he).1,bC.le (by omega) _ (KQ e he).2⟩) (BR 0 (hc.h 0) ys)
 exact⟨y',aH,_,v,cv,q1,⟨rfl,z1⟩,by rw[z2];exact q4,by rw[z2];exact q5,z3,z4,z6 v q8,q9.trans (z5.le (by rw[hx];omega)),by rw[z1,hx];show O.nx<=K+1;omega⟩
def BC{P:Program}{T:Tb}{a9 r:I Oper}{o:Oper}{l:I (Nat×U)}{O O1:Sg}{b7:I RK}{K:I RK->I U->Sg->Prop}{u:U}{f:FuncId}{args:I U}(hw:cM a9 (fr n l) o=some true)(hc:kH T (fr n l) o.op=some (f,args))(kI:bE P f args O (fun u' O'=>u'=u/\O'=O1)){d:Tmp}(he:o.dst=some d)(hd:Nat.blt d n=true)
  (hk:RH P T a9 r (fr n ((d,u)::l)) O1 ((3,⟨fr n l,o,u,true,true,O,O1⟩)::b7) K):RH P T a9 (o::r) (fr n l) O b7 K :=
 RH.callM hw hc kI (by rw[he,sZ (d:=some d) u hd];exact hk)
def GF(k:IntKind)(a b:Int):Int:=k.wrap (BitVec.ofInt k.bits a&&&BitVec.ofInt k.bits b).toNat
def Kg(k:IntKind)(a b:Int):Int:=k.wrap (BitVec.ofInt k.bits a|||BitVec.ofInt k.bits b).toNat
def SN(k:IntKind)(a b:Int):Int:=k.wrap (BitVec.ofInt k.bits a &&& ~~~ BitVec.ofInt k.bits b).toNat
def qvj(k:IntKind)(a b:Int):kR .andNot k a k b=some (.int k (SN k a b)):=by simp[kR,SN]
def aa(k:IntKind)(a b:Int):kR .and k a k b=some (.int k (GF k a b)):=by simp[kR,GF]
def Uy(k:IntKind)(a b:Int):kR .or k a k b=some (.int k (Kg k a b)):=by simp[kR,Kg]
def Y0(s:I UInt8)(i:Int):V Int:=if 0<=i/\i<(s.length:Int)then(s[i.toNat]?).map fun b=>(b.toNat:Int)else none
def fy{T:Tb}{O:Sg}{l:I (Nat×U)}{t:X}{x y:Operand}{s:I UInt8}{k:IntKind}{i z:Int}(hd:T.und t=some .string)(hx:c7 n l x=some (.str s))(hy:c7 n l y=some (.int k i))(h:Y0 s i=some z):bM T O (fr n l) (.index t x y)=some (.int .u8 z,O):=by unfold Y0 at h;split at h;rename_i hp;rcases hb:s[i.toNat]? with _|b;rw[hb]at h;cases h;rw[hb]at h;simp[zM,zA]at h;subst h;have e1:sH i s.length=true:=OK hp;apply vL;simp[gQ,fN hx,fN hy,xh,g2,toV,YB,hd,e1,zC,jA,hb,iN];cases h
def zg(O τ:Sg):Prop:=∀k b,gt O.h k=some b->gt τ.h k=some b
section
variable{O τ:Sg}(hs:zg O τ)
include hs
variable{k:Nat}
def Qg{st:Nat}(h:bW O k st=true):bW τ k st=true:=by unfold bW at*;rcases hg:gt O.h k with _|b;rw[hg]at h;cases h;rw[hg]at h;rw[hs k b hg];exact h
def SV{v11:Type}{st:Nat}{v05:V v11}{u:v11}(h:cond (bW O k st) v05 none=some u):cond (bW τ k st) v05 none=some u:=by rcases hl:bW O k st with _|_;rw[hl]at h;cases h;rw[hl]at h;rw[Qg hs hl];exact h
def quv{st:Nat}{l:I U}(h:cellsOf O k st=some l):cellsOf τ k st=some l:=by unfold cellsOf at*;rcases hg:gt O.h k with _|b;rw[hg]at h;cases h;rw[hg]at h;rw[hs k b hg];exact h
def qs3{st:Nat}{l:I U×X×Nat}(h:wG O k st=some l):wG τ k st=some l:=by unfold wG at*;rcases hg:gt O.h k with _|b;rw[hg]at h;cases h;rw[hg]at h;rw[hs k b hg];exact h
variable{T:Tb}{tm:I U}
variable{op:Op}
variable{u:U}
def z1f(h:nI T O tm op=some u):nI T τ tm op=some u:=by
 cases op with
 |load t x=>
  simp[nI]at*;rcases hx:c9 tm x with _|a;rw[hx]at h;exact h;rw[hx]at h;cases a with
  |ptr k st off=>simp[]at*;rcases hc:cellsOf O k st with _|l;rw[hc]at h;cases h;rw[hc]at h;rw[quv hs hc];exact h
  |_=>exact h
 |lookup t x k ok=>
  simp[nI]at*;rcases hd:T.und t with _|d;rw[hd]at h;cases h;rw[hd]at h;cases d with
  |map kt et=>
   rcases hx:c9 tm x with _|a;rw[hx]at h;exact h;rw[hx]at h;rcases hk:c9 tm k with _|ku;rw[hk]at h;cases h;rw[hk]at h;cases a with
   |map r=>
    simp[]at*;cases hg:gt O.h r with
    |none=>rw[hg]at h;rcases hv:toV ku with _|kv;rw[hv]at h;exact h;rw[hv]at h;simp only[]at h;cases rJ:pA T 50 kt kv<;>rw[rJ]at h<;>cases h
    |some b=>rw[hg]at h;rw[hs r b hg];exact h
   |_=>exact h
  |_=>exact h
 |_=>exact h
def qs2{n:Nat}(hn:n≠0)(h:eU O u=n):eU τ u=n:=by
 unfold eU at*;cases u with
 |ptr k st off=>simp[]at*;rcases hl:bW O k st with _|_;rw[hl]at h;exact absurd h.symm hn;rw[hl]at h;rw[Qg hs hl];exact h
 |sl k a b c=>simp[]at*;rcases hl:bW O k 0 with _|_;rw[hl]at h;exact absurd h.symm hn;rw[hl]at h;rw[Qg hs hl];exact h
 |map k=>simp[]at*;rcases hl:bW O k 0 with _|_;rw[hl]at h;exact absurd h.symm hn;rw[hl]at h;rw[Qg hs hl];exact h
 |vl k st off m=>cases m with|zero=>exact h|succ m=>simp[]at*;rcases hl:bW O k st with _|_;rw[hl]at h;exact absurd h.symm hn;rw[hl]at h;rw[Qg hs hl];exact h
 |isl t l=>cases l<;>exact h|_=>exact h
variable{t:X}
variable{x:U}
def qxo{op:BinOp}{y:U}(h:OG T O op t x y=some u):OG T τ op t x y=some u:=by
 unfold OG at*;by_cases hk:uF T t=0;simp only[beq_eq,hk,yC,zC]at h;cases h;simp[beq_eq,hk,yB,zD]at h ⊢;by_cases hx:eU O x=uF T t;have:=qs2 hs hk hx;simpa[hx,this]using h;by_cases hy:eU O y=uF T t;have FK:=qs2 hs hk hy;by_cases hn:ES x=uF T t;have C?:WE op=some u:=by simpa[hx,hy,hn]using h
 have hz:eU τ x=0:=by cases x<;>simp[ES]at hn<;>first |rfl |exact absurd hn.symm hk
 have hz':¬ eU τ x=uF T t:=by rw[hz];exact fun h=>hk h.symm
 simpa[hz',FK,hn]using C?;simp[hx,hn]at h;by_cases hn:ES x=uF T t;simp[hx,hn,hy]at h;simp[hx,hn]at h
def z2m{op:BinOp}{y:U}(h:R9 T O op t x y=some u):R9 T τ op t x y=some u:=by unfold R9 at*;rcases hg:g2 (qK T op t) x y with _|r;rw[hg]at h;exact qxo hs h;rw[hg]at h;exact h
def qsj{f:Nat}(h:SP T O t x f=some u):SP T τ t x f=some u:=by unfold SP at*;split at h;split at h;split at h;split at h;exact SV hs h;exact h;cases h;cases h;cases h;cases h
def qsu{i:U}(h:BQ T O t x i=some u):BQ T τ t x i=some u:=by unfold BQ at*;split at h;split at h;split at h;split at h;exact SV hs h;split at h;rename_i hv;rw[qs3 hs hv];exact h;cases h;exact h;cases h;cases h;split at h;split at h;exact SV hs h;exact h;cases h;cases h;cases h;cases h
def z4d(h:lenU T O t x=some u):lenU T τ t x=some u:=by unfold lenU at*;split at h;split at h;exact h;exact SV hs h;exact SV hs h;exact h;cases h;exact h;exact h;split at h;exact h;split at h;rename_i hv;rw[hs _ _ hv];exact h;cases h;cases h;cases h
def z2u(h:G3 T O t x=some u):G3 T τ t x=some u:=by unfold G3 at*;split at h;split at h;exact h;exact SV hs h;cases h;cases h
def qy3{a b c:V M}(h:IZ T O t x a b c=some u):IZ T τ t x a b c=some u:=by unfold IZ at*;split at h;exact h;split at h;split at h;exact h;exact SV hs h;split at h;rename_i hv;rw[qs3 hs hv];exact h;cases h;exact h;cases h;cases h;cases h
def z1e(h:gQ T O tm op=some u):gQ T τ tm op=some u:=by
 cases op with
 |nilCheck x=>simp[gQ]at*;split at h;exact SV hs h;exact h;exact h;cases h|binOp o t x y ty=>simp only[gQ]at*;split at h;exact z2m hs h;cases h
 |slice t x lo hi mx=>simp[gQ]at*;split at h;exact qy3 hs h;cases h|fieldAddr t x f=>simp[gQ]at*;split at h;exact qsj hs h;cases h
 |indexAddr t x i=>simp[gQ]at*;split at h;exact qsu hs h;cases h|call c=>simp[gQ]at*;split at h;split at h;exact z4d hs h;cases h;split at h;exact z2u hs h;cases h;exact h;exact h;cases h
 |_=>exact h
def Y1:Op->Bool
 |.alloc _ |.box _ _ |.store _ _ _ |.buildSlice _ _ _ |.makeSlice _ _ _ |.makeMap _ _ |.mapUpdate _ _ _ _ |.insert _ _ _ _ |.mapEntry _ _ _ |.entryStore _ _ _ _=>false|.call c=>(match c.callee with
  |.builtin .append=>false|.builtin .copy=>false
  |.builtin .delete=>false|.builtin .clear=>false
  |_=>true)
 |_=>true
omit hs in
def z35{op:Op}(h:Y1 op=true):nX T O tm op=none:=by
 cases op<;>simp[Y1]at h<;>first |rfl |(cases h)|skip
 case call c=>simp[nX];split<;>simp_all
def z4j(hn:Y1 op=true)(h:bM T O tm op=some (u,O)):bM T τ tm op=some (u,τ):=by
 unfold bM at*;cases hp:gQ T O tm op with
 |some v=>rw[hp]at h;simp[zA,zB,and_true]at h;subst h;rw[z1e hs hp]|none=>
  rw[hp]at h;rcases hr:nI T O tm op with _|v;rw[hr]at h;simp only[z35 hn]at h;cases h;rw[hr]at h;simp[zA,zB,and_true]at h;subst h;have bz:gQ T τ tm op=none:=by cases op<;>first |rfl |(simp[nI]at hr)
  rw[bz,z1f hs hr]
end
def BelB.le{n k:Nat}(h:n<=k):(b:B)->BelB n b->BelB k b
 |.row l _,hb=>aL.le h l hb|.vec l _ _ _,hb=>aL.le h l hb
 |.map es _,hb=>fun e he=>⟨bC.le h _ (hb e he).1,bC.le h _ (hb e he).2⟩
def rP:V Nat->Nat->U
 |none,k=>.ptr k 0 0|some n,k=>.sl k 0 n n
variable{F:Nat->lU->Prop}
def z4t{y:Cx}{O:Sg}{nx0 k:Nat}{l:I U}{e:X}(hy:y.O=newU O (.row l e))(hh:kM y)(hf:Fr F y)(Cf:nx0<=k)(DM:k<O.nx)(Wz:gt O.h k=none)
  (aE:∀j b,gt O.h j=some b->j<O.nx) (hl:aL 0 l) (oM:∀j b,gt O.h j=some b->BelB nx0 b):
  ∃y':Cx,y'.O=⟨(k,.row l e)::O.h,O.nx⟩/\y'.s=y.s/\kM y'/\Fr F y'/\Ke nx0 y y'/\(∀o v,aD y (rP o O.nx) v->aD y' (rP o k) v)/\(∀o j v,j≠k->j<O.nx->aD y (rP o j) v->aD y' (rP o j) v):=by
 have gy:∀j,gt y.O.h j=if O.nx=j then some (.row l e)else gt O.h j:=fun j=>by rw[hy];simp[newU,eA]
 have HO:∀j,gt ((k,B.row l e)::O.h) j=if k=j then some (.row l e)else gt O.h j:=fun j=>by rw[eA]
 have old:∀j b,gt O.h j=some b->gt y.O.h j=some b:=fun j b hb=>by have:=aE j b hb;rw[gy,if_neg (by omega)];exact hb
 have hnk:∀j b,gt O.h j=some b->j≠k:=fun j b hb h=>by subst h;rw[Wz]at hb;cases hb
 have gD:Mo nx0 y ⟨fun j=>if j=k then y.Y O.nx else y.Y j,⟨(k,.row l e)::O.h,O.nx⟩,y.s⟩:=by refine⟨fun j h1 h2=>⟨by simp only;omega,fun b' cV=>?_⟩,fun _ _ _ h=>h⟩;simp[HO]at cV;rw[if_neg (by omega)]at cV;exact⟨b',old j b' cV,zF _,fun _=>⟨by simp only;rw[if_neg (by omega)],fun l e sz st h=>⟨l,h⟩⟩⟩
 refine⟨⟨fun j=>if j=k then y.Y O.nx else y.Y j,⟨(k,.row l e)::O.h,O.nx⟩,y.s⟩,rfl,rfl,⟨fun j b hb=>?_,fun j j' b b' i hb cV h1 h2=>?_,hh.bd⟩,fun i b J=>?_,gD.ke,fun o v hv=>?_,fun o j v hj hjl hv=>?_⟩;simp[HO]at hb;by_cases nQ:k=j;subst nQ;rw[if_pos rfl]at hb;cases hb;refine⟨DM,?_⟩;have⟨_,h2⟩:=hh.ok O.nx (.row l e) (by rw[gy,if_pos rfl]);have⟨q1,i,l',q2,q3,q4⟩:=h2;exact⟨q1,i,l',by simp[q2],q3,gD.ke.E (aL.le (Nat.zero_le _) l hl) q4⟩;rw[if_neg nQ]at hb;refine⟨aE j b hb,?_⟩;exact(hh.ok j b (old j b hb)).2.monoB (oM j b hb) gD (by simp only;rw[if_neg (fun h=>nQ h.symm)]) fun _ _ _ h=>h;have key:∀j b,gt ((k,B.row l e)::O.h) j=some b->∀i,(if j=k then y.Y O.nx else y.Y j)=some i->∃j0 b0,gt y.O.h j0=some b0/\y.Y j0=some i/\(j=k/\j0=O.nx\/j≠k/\j0=j/\j<O.nx):=fun j b hb i hi=>by rw[HO]at hb;by_cases nQ:j=k;rw[if_pos nQ]at hi;exact⟨O.nx,.row l e,by rw[gy,if_pos rfl],hi,.inl ⟨nQ,rfl⟩⟩;rw[if_neg (fun h=>nQ h.symm)]at hb;rw[if_neg nQ]at hi;exact⟨j,b,old j b hb,hi,.inr ⟨nQ,rfl,aE j b hb⟩⟩
 have⟨a,ba,g1,g2,g3⟩:=key j b hb i h1;have⟨c,bc,g4,g5,g6⟩:=key j' b' cV i h2;have:=hh.inj a c ba bc i g1 g4 g2 g5;omega;have⟨h1,h2⟩:=hf i b J;refine⟨h1,fun j c hc=>?_⟩;simp[HO]at hc;by_cases nQ:j=k;simp[nQ,if_true];exact h2 O.nx (.row l e) (by rw[gy,if_pos rfl]);rw[if_neg (fun h=>nQ h.symm)]at hc;simp[nQ,if_false];exact h2 j c (old j c hc);cases o<;>(
  simp[rP,aD,Ref]at hv ⊢;refine⟨hv.1,DM,fun b hb=>?_⟩;simp only[HO,if_true]at hb;have:=hv.2.2 b (by rw[gy,if_pos rfl];exact hb);simpa using this)
 cases o<;>(
  simp[rP,aD,Ref]at hv ⊢;refine⟨hv.1,hjl,fun b hb=>?_⟩;simp[HO,if_neg (fun h:k=j=>hj h.symm)]at hb;have:=hv.2.2 b (old j b hb);simpa[hj]using this)
structure Al where
 i:Nat
 k:Nat
 o:V Nat
 l:I U
 e:X
def CO(P:Program)(T:Tb)(tm:I U)(op:Op)(al:Al):Prop :=
 (∀s,bM T s tm op=some (rP al.o s.nx,newU s (.row al.l al.e)))\/∃f args,kH T tm op=some (f,args)/\∀s,bE P f args s (fun u s'=>u=rP al.o s.nx/\s'=newU s (.row al.l al.e))
variable{P:Program}
variable{T:Tb}
variable{tm:I U}
variable{op:Op}
variable{al:Al}
def CO.congr{tm':I U}(h:CO P T tm op al)(hc:∀x∈op.operands.toList,c9 tm' x=c9 tm x):CO P T tm' op al:=by
 rcases h with h |⟨f,args,h1,h2⟩;exact .inl fun s=>by rw[YX hc];exact h s
 exact .inr ⟨f,args,by rw[yi hc];exact h1,h2⟩
def CO.nd(h:CO P T tm op al):∀c,op≠.defer c:=by rcases h with h |⟨f,args,h1,_⟩;exact OE (h ⟨[],0⟩);exact Px h1
def CO.ne{O:Sg}{u:U}(h:CO P T tm op al)(h':bM T O tm op=some (u,O)):False:=by rcases h with h |⟨f,args,h1,_⟩;have:=h O;rw[h']at this;simp[zA,zB]at this;have:=congrArg Sg.nx this.2;simp only[newU]at this;omega;rw[quu h1]at h';cases h'
def St.mkA(hT:lP P T){x:Cx}{tv:I M}{m:Nm}{w:World}{a:Act}(st:St F x tm tv m w a)(o:Oper)(h:CO P T tm o.op al){next:Act->World->Prop}{Q:Exit->Act->World->Prop}
  (hn:∀y cZ aH w₁ bB,y.O=newU x.O (.row al.l al.e)->St F y (dZ tm o.dst (rP al.o x.O.nx)) cZ aH w₁ bB->bQ m x.s w aH y.s w₁->Ke x.O.nx x y->x.O.nx<=y.O.nx->bB.defers=a.defers->next bB w₁):o.wp P a w next Q:=by rcases h with h |⟨f,args,h1,h2⟩;exact st.op hT o (h x.O) hn;exact st.call hT o h1 (h2 x.O) fun y u cZ aH w₁ bB ⟨e1,e2⟩=>by subst e1;exact hn y cZ aH w₁ bB e2
structure Loc(T:Tb)(a9:I Oper)(lT:I Al)(i:Nat)(r:dR)(K:Nat)(q q':I U)(e:X):Prop where
 name:∃al∈lT,al.k=K
 row:gt r.s.h K=some (.row q e)
 out:r.s'=⟨ug r.s.h K (.row q' e),r.s.nx⟩
 dst:r.o.dst=none
 run:∀ τ:Sg,gt τ.h K=some (.row q e)->bM T τ r.tm r.o.op=some (r.u,⟨ug τ.h K (.row q' e),τ.nx⟩)
 pre:∀al∈lT,Pre a9 i al.i\/(al.k≠K/\aL al.k q')
 want:cM a9 r.tm r.o=some true
structure ChA(P:Program)(T:Tb)(a9:I Oper)(tm₀:I U)(Ob O1:Sg)(rs:I dR)(lT:I Al):Prop where
 some:lT≠[]
 names:∀al∈lT,Ob.nx<=al.k/\al.k<O1.nx
 nodup:∀a∈lT,∀b∈lT,a.k=b.k->a.i=b.i
 le:Ob.nx<=O1.nx
 at_:∀al∈lT,∃r d,rs[al.i]? = .some r/\r.u=rP al.o al.k/\r.act=false/\r.mv=true/\CO P T r.tm r.o.op al/\r.o.guard=none/\r.o.dst=.some d
 row:∀al∈lT,aL 0 al.l
 all:∀(i:Nat)(r:dR),rs[i]? = .some r->r.act=false->r.mv=true->∃al∈lT,al.i=i
 own:∀al∈lT,gt O1.h al.k=.some (.row al.l al.e)
 oth:∀j,(∀al∈lT,al.k≠j)->gt O1.h j=gt Ob.h j
 acts:∀(i:Nat)(r:dR),rs[i]? = .some r->r.act=true->(∀al∈lT,Pre a9 i al.i)\/∃K q q' e,Loc T a9 lT i r K q q' e
 early:∀(i:Nat)(r:dR),rs[i]? = .some r->r.act=false->r.mv=false->(∀al∈lT,Pre a9 i al.i)\/(bC Ob.nx r.u/\(cM a9 r.tm r.o=.some true->bM T r.s r.tm r.o.op=.some (r.u,r.s')->Y1 r.o.op=true/\bM T ⟨Ob.h,O1.nx⟩ r.tm r.o.op=.some (r.u,⟨Ob.h,O1.nx⟩)))
section
variable{P:Program}{T:Tb}(hT:lP P T)(a9:Array Oper){tm₀:I U}{Ob O1:Sg}{rs:I dR}{tm':I U}{O':Sg}{lT:I Al}
 (gC:Lm P T a9.toList tm₀ O1 rs tm' O') (bZ:ML a9.toList=true) (DP:zl T a9.toList rs) (fA:ChA P T a9.toList tm₀ Ob O1 rs lT)
include gC fA
def Dv(QB:∀j b,gt Ob.h j=some b->j<Ob.nx/\BelB Ob.nx b)(hm:al∈lT):∀p,p<=rs.length->(∀(e:Nat)(q:dR),rs[e]? = some q->q.act=true->e<p->¬ Pre a9.toList e al.i)->
  gt (fC rs O' p).h al.k=some (.row al.l al.e)/\(∀j b,gt (fC rs O' p).h j=some b->BelB al.k b)/\(∀j,(∀al∈lT,al.k≠j)->gt (fC rs O' p).h j=gt Ob.h j)/\(fC rs O' p).nx=O1.nx:=by
 intro p;induction p with
 |zero=>
  intro _ _;rw[gC.s0];refine⟨fA.own al hm,fun j b hb=>?_,fA.oth,rfl⟩;by_cases hj:∀al∈lT,al.k≠j;rw[fA.oth j hj]at hb;exact BelB.le (fA.names al hm).1 _ (QB j b hb).2;have:∃al∈lT,al.k=j:=by apply Classical.byContradiction;intro hc;exact hj fun al hm h=>hc ⟨al,hm,h⟩
  obtain⟨al',dK,rfl⟩:=this;rw[fA.own al' dK]at hb;cases hb;exact aL.le (Nat.zero_le _) _ (fA.row al' dK)
 |succ p ih=>
  intro hp eH;have hr:rs[p]? = some rs[p]:=by simp[show p<rs.length by omega]
  have⟨f1,f2,f3,f4⟩:=ih (by omega) fun e q h1 h2 h3=>eH e q h1 h2 (by omega);have⟨_,g2,g3,_⟩:=gC.all p _ hr;have e1:fC rs O' p=rs[p].s:=by simp[fC,hr]
  rw[g3];rw[e1]at f1 f2 f3 f4;rcases ha:rs[p].act with _|_;rw[g2.quiet ha];exact⟨f1,f2,f3,f4⟩;rcases fA.acts p _ hr ha with h |⟨K,q,q',e,hL⟩;exact absurd (h al hm) (eH p _ hr ha (zN _));have hK:al.k≠K/\aL al.k q':=by rcases hL.pre al hm with h |h;exact absurd h (eH p _ hr ha (zN _));exact h
  have⟨alK,Kv,Kw⟩:=hL.name;rw[hL.out];refine⟨?_,fun j b hb=>?_,fun j hj=>?_,f4⟩;show gt (ug rs[p].s.h K _) al.k=_;rw[BN,if_neg fun h=>hK.1 h.symm];exact f1;simp[BN]at hb;by_cases hj:K=j;rw[if_pos hj,hL.row]at hb;cases hb;exact hK.2;rw[if_neg hj]at hb;exact f2 j b hb;show gt (ug rs[p].s.h K _) j=_;rw[BN,if_neg fun h=>hj alK Kv (Kw.trans h)];exact f3 j hj
include hT bZ DP
def zb1{ro:V Nat}{n0:Nat}(cf:n0<=Ob.nx)(Cs:aL Ob.nx tm₀)(QB:∀j b,gt Ob.h j=some b->j<Ob.nx/\BelB Ob.nx b){x0:Cx}{m0:Nm}{w0:World}{E:Exit->Act->World->Prop}{df:I Deferred}(hQ:∀y tv m w a,y.O=O'->St F y tm' tv m w a->bQ m0 x0.s w0 m y.s w->Ke n0 x0 y->n0<=y.O.nx->a.defers=df->E .normal a w):
  ∀(fuel:Nat)(aG:Array Bool)(a:Act)(w:World)(m:Nm)(tm:I U)(tv:I M)(x:Cx)(p:Nat),p<=rs.length->(∀(e:Nat)(r:dR),rs[e]? = some r->r.act=true->(aG.getD e false=true↔e<p))->aG.size=a9.size->aG.toList.count false=fuel->
   Closed a9.toList (fun k=>aG.getD k false=true)->IY tm₀ rs (fun k=>aG.getD k false=true) tm->(∃al∈lT,¬ aG.getD al.i false=true)->
   x.O.nx=O1.nx->(∀al∈lT,gt x.O.h al.k=if aG.getD al.i false=true then gt (fC rs O' p).h al.k else none)->(∀j,(∀al∈lT,al.k≠j)->gt x.O.h j=gt Ob.h j)->
   St F x tm tv m w a->bQ m0 x0.s w0 m x.s w->Ke n0 x0 x->a.defers=df->
   wpAnyIn (pB ro) 0 P .any a9 E fuel aG a w:=by
 have hn:rs.length=a9.size:=by simpa using gC.len
 intro fuel;induction fuel with
 |zero=>
  intro aG a w m tm tv x p hp iX dS KM eS iW DE jT dA FP fS aS eR j6;exfalso;have⟨al,hm,hu⟩:=DE;have⟨r,d,h1,_⟩:=fA.at_ al hm;have aE:=(zG.1 h1).1;have sK:al.i<aG.size:=by omega
  have:aG[al.i]≠false:=fun hf=>by
   have hm:false∈aG.toList:=by rw[<-hf];simp
   have:=List.count_pos_iff.2 hm;omega
  have this':aG[al.i]=true:=by simpa using this
  exact hu (by simp[Array.getD,sK,this'])
 |succ fuel ih=>
  intro aG a w m tm tv x p hp iX dS KM eS iW DE jT dA FP fS aS eR j6;have mem_ready:∀i,i∈Region.ready .any a9 aG↔i<a9.size/\aG.getD i true=false/\∃o,a9[i]? = some o/\∀e∈o.after.toList,Region.binds .any e=true->aG.getD e.on false=true:=by
   intro i;unfold Region.ready;rw[List.mem_filter,List.mem_range];refine and_congr_right fun hi=>?_;have ho:a9[i]? = some a9[i]:=by simp[hi]
   simp only[ho,zM,Option.getD_some,Bool.and_eq_true,Bool.not_eq_true',Array.all_eq_true_iff_forall_mem,Bool.or_eq_true];refine and_congr_right fun _=>?_;constructor;intro h;refine⟨_,rfl,fun e he hb=>?_⟩;rcases h e (by simpa using he)with h1 |h1
   simp[hb]at h1;exact h1;rintro⟨o,ho',h⟩ e he;cases ho';rcases hb:Region.binds .any e with _|_;exact .inl rfl;exact .inr (h e (by simpa using he) hb)
  refine⟨fun Bw=>?_,fun i hi=>?_⟩;exfalso;have xT:∃i,i<a9.size/\aG.getD i true=false:=by
   have f0:0<aG.toList.count false:=by omega
   have⟨i,hi,e⟩:=List.mem_iff_getElem.1 (List.count_pos_iff.1 f0);simp at hi;refine⟨i,by omega,?_⟩;simp[Array.getElem_toList]at e;simp[Array.getD,hi,e]
  have nP:∀n,n<a9.size->aG.getD n true=false->False:=by
   intro n;induction n using Nat.strongRecOn with
   |_ n ihn=>
    intro UO Q3;have:n∈Region.ready .any a9 aG:=(mem_ready n).2 ⟨UO,Q3,a9[n],by simp[UO],fun e he hb=>by
     have aE:=zq bZ (i:=n) (o:=a9[n]) (by simp[UO]) e he hb;have sK:e.on<aG.size:=by omega
     cases hv:aG[e.on]with|true=>simp[Array.getD,sK,hv]|false=>exact(ihn e.on aE (by omega) (by simp[Array.getD,sK,hv])).elim⟩
    rw[Bw]at this;cases this
  have⟨i,h1,h2⟩:=xT;exact nP i h1 h2
  ·have⟨hilt,NF,o,ho,CG⟩:=(mem_ready i).1 hi;have wP:i<aG.size:=by omega
   have NJ:¬ aG.getD i false=true:=by simp[Array.getD,wP]at NF ⊢;exact NF
   have xR:a9.toList[i]? = some o:=by simpa using ho
   have⟨r,hr,jI⟩:=zap a9 gC xR;subst jI;have nN:∀q,a9.toList[i]? = some q->∀e∈q.after.toList,Region.binds .any e=true->aG.getD e.on false=true:=fun q hq=>by rw[xR]at hq;cases hq;exact CG
   have CA:=qqe a9 gC bZ eS iW hr NJ nN;have⟨_,yW,nA,_⟩:=gC.all i r hr;have jE:∀k,((aG.setIfInBounds i true).getD k false=true)↔(aG.getD k false=true\/k=i):=fun k=>by by_cases hk:k=i;subst hk;simp[Array.getD,wP];by_cases qR:k<aG.size;simp[Array.getD,qR,hk,Ne.symm hk];simp[Array.getD,qR,hk]
   have wV:Closed a9.toList (fun k=>(aG.setIfInBounds i true).getD k false=true):=fun k q hk hq e he hb=>by refine(jE e.on).2 (.inl ?_);rcases(jE k).1 hk with hk |rfl;exact eS k q hk hq e he hb;exact nN q hq e he hb
   have nM:IY tm₀ rs (fun k=>(aG.setIfInBounds i true).getD k false=true) (dZ tm r.o.dst r.u):=by have:=rf a9 gC bZ iW hr;exact⟨this.len,fun k q d a b c hL=>this.yes k q d a b c ((jE k).1 hL),fun k q d a b hL=>this.no k q d a b fun x=>hL ((jE k).2 x),this.other⟩
   have tQ:(aG.setIfInBounds i true).toList.count false=fuel:=by
    have hv:aG[i]=false:=by simpa[Array.getD,wP]using NF
    rw[Array.toList_setIfInBounds,List.count_set (by simpa using wP)];have Cq:Array.count false aG=fuel+1:=by simpa using KM
    simp[hv];omega
   have⟨pX,N9⟩:=za9 CA;have notall:¬ (∀al∈lT,Pre a9.toList i al.i):=fun h=>by have⟨al,hm,hu⟩:=DE;exact hu (SU bZ eS nN (h al hm))
   by_cases nS:r.act=true;rcases fA.acts i r hr nS with h |⟨K,q,q',e,hL⟩;exact absurd h notall;have⟨alK,Kv,Kw⟩:=hL.name;have Wm:p<=i:=by rcases Nat.lt_or_ge i p with h |h;exact absurd ((iX i r hr nS).2 h) NJ;exact h
   have hil':i<rs.length:=(zG.1 hr).1;have tR:∀(e:Nat)(q:dR),p<=e->e<i->rs[e]? = some q->q.act=false:=fun e q h1 h2 h3=>by rcases hb:q.act with _|_;rfl;have:=SU bZ eS nN (DP.acts i e r q hr h3 nS hb h2);have:=(iX e q h3 hb).1 this;omega
   have UI:fC rs O' i=r.s:=by simp[fC,hr]
   have Kt:fC rs O' p=r.s:=(YO a9 gC Wm (by omega) tR).trans UI;have hKl:aG.getD alK.i false=true:=by rcases hL.pre alK Kv with h |h;exact SU bZ eS nN h;exact absurd Kw h.1
   have hgK:gt x.O.h K=some (.row q e):=by have:=dA alK Kv;rw[if_pos hKl,Kw,Kt,hL.row]at this;exact this
   have m5:bM T x.O tm r.o.op=some (r.u,⟨ug x.O.h K (.row q' e),x.O.nx⟩):=by rw[YX pX];exact hL.run _ hgK
   unfold wpOpIn;simp[ho];rw[Qb (fS.act m (aN.refl _ _)) a9 r.o,vQ fS.e (N9.trans hL.want)];simp[if_true];refine AO (OE m5) (fS.op hT r.o m5 fun y cZ aH w₁ bB e1 cT bO d8 mP fL=>?_);have wQ:∀al∈lT,((aG.setIfInBounds i true).getD al.i false=true)↔aG.getD al.i false=true:=fun al hm=>by
    have:al.i≠i:=fun h=>by have⟨q,d,q1,_,q3,_⟩:=fA.at_ al hm;rw[h,hr]at q1;cases q1;rw[nS]at q3;cases q3
    rw[jE];simp[this]
   refine ih _ _ _ aH _ cZ y (i+1) (by omega) (fun e' q1 hq FM=>?_) (by simpa using dS) tQ wV nM ?_ (by rw[e1];exact jT) (fun al hm=>?_) (fun j hj=>?_) cT (aS.trans bO) (eR.trans (d8.le (by rw[jT];have:=fA.le;omega))) (fL.trans j6);rw[jE];by_cases hei:e'=i;subst hei;simp;simp only[hei,or_false];constructor;intro Cw;have:=(iX e' q1 hq FM).1 Cw;omega;intro aE;exact SU bZ eS nN (DP.acts i e' r q1 hr hq nS FM (by omega));obtain⟨al,hm,hu⟩:=DE;exact⟨al,hm,fun h=>hu ((wQ al hm).1 h)⟩;rw[e1,nA,hL.out];by_cases hl:aG.getD al.i false=true;rw[if_pos ((wQ al hm).2 hl)];show gt (ug x.O.h K _) al.k=gt (ug r.s.h K _) al.k;rw[BN,BN,hgK,hL.row,dA al hm,if_pos hl,Kt];rw[if_neg (fun h=>hl ((wQ al hm).1 h))];show gt (ug x.O.h K _) al.k=_;rw[BN];have d5:K≠al.k:=fun h=>by have:=fA.nodup alK Kv al hm (Kw.trans h);rw[<-this]at hl;exact hl hKl
   rw[if_neg d5,dA al hm,if_neg hl];rw[e1];show gt (ug x.O.h K _) j=_;rw[BN,if_neg (fun h=>hj alK Kv (Kw.trans h)),FP j hj];have noact:r.act=false:=by simpa using nS
   have CH:∀(e:Nat)(q:dR),rs[e]? = some q->q.act=true->((aG.setIfInBounds i true).getD e false=true↔e<p):=fun e q hq FM=>by rw[jE];by_cases hei:e=i;subst hei;rw[hr]at hq;cases hq;rw[noact]at FM;cases FM;simp only[hei,or_false];exact iX e q hq FM
   have stay:r.mv=false->∀y cZ aH w₁ bB,y.O=x.O->St F y (dZ tm r.o.dst r.u) cZ aH w₁ bB->bQ m0 x0.s w0 aH y.s w₁->Ke n0 x0 y->bB.defers=df->wpAnyIn (pB ro) 0 P .any a9 E fuel (aG.setIfInBounds i true) bB w₁:=fun ND y cZ aH w₁ bB h1 h2 h3 h4 h6=>by
    have d5:∀al∈lT,al.i≠i:=fun al hm h=>by have⟨q,d,q1,_,_,q2,_⟩:=fA.at_ al hm;rw[h,hr]at q1;cases q1;rw[ND]at q2;cases q2
    have wQ:∀al∈lT,((aG.setIfInBounds i true).getD al.i false=true)↔aG.getD al.i false=true:=fun al hm=>by rw[jE];simp[d5 al hm]
    refine ih _ _ _ aH _ cZ y p hp CH (by simpa using dS) tQ wV nM ?_ (by rw[h1];exact jT) (fun al hm=>?_) (by rw[h1];exact FP) h2 h3 h4 h6;have⟨al,hm,hu⟩:=DE;exact⟨al,hm,fun h=>hu ((wQ al hm).1 h)⟩;rw[h1,dA al hm];by_cases hL:aG.getD al.i false=true;rw[if_pos hL,if_pos ((wQ al hm).2 hL)];rw[if_neg hL,if_neg fun h=>hL ((wQ al hm).1 h)]
   have jC:zg ⟨Ob.h,O1.nx⟩ x.O:=fun k b hb=>by rw[FP k fun al hm h=>?_];exact hb;have:=(QB k b hb).1;have:=(fA.names al hm).1;omega
   unfold wpOpIn;simp[ho];rw[Qb (fS.act m (aN.refl _ _)) a9 r.o];cases ND:r.mv with
   |true=>
    have⟨al,hm,jJ⟩:=fA.all i r hr noact ND;have⟨q,d,q1,q2,q3,q4,q5,q6,q7⟩:=fA.at_ al hm;rw[jJ,hr]at q1;cases q1;have r2:=fA.row al hm;have hw:cM a9.toList tm r.o=some true:=by unfold cM;rw[q6]
    rw[vQ fS.e hw];simp only[if_true];have m5:CO P T tm r.o.op al:=q5.congr pX;refine AO m5.nd (fS.mkA hT r.o m5 fun y cZ aH w₁ bB e1 cT bO d8 mP fL=>?_);have Bv:∀(e:Nat)(q:dR),rs[e]? = some q->q.act=true->e<p->¬ Pre a9.toList e al.i:=fun e q h1 h2 h3 h4=>by have:=Hu bZ eS e al.i ((iX e q h1 h2).2 h3) h4;simp only[jJ]at this;exact NJ this
    obtain⟨F1,F2,F3,F4⟩:=Dv a9 gC fA QB hm p hp Bv;have oM:∀j b,gt x.O.h j=some b->BelB al.k b:=fun j b hb=>by
     by_cases hj:∀al∈lT,al.k≠j;rw[FP j hj,<-F3 j hj]at hb;exact F2 j b hb;have:∃al∈lT,al.k=j:=by apply Classical.byContradiction;intro hc;exact hj fun al hm h=>hc ⟨al,hm,h⟩
     obtain⟨al',dK,rfl⟩:=this;rw[dA al' dK]at hb;split at hb;exact F2 _ b hb;cases hb
    have Wz:gt x.O.h al.k=none:=by rw[dA al hm,if_neg (by rw[jJ];exact NJ)]
    have⟨y',z1,z2,z3,z4,z5,z6,z7⟩:=z4t (F:=F) (nx0:=al.k) (k:=al.k) e1 cT.h cT.fr (zF _) (by rw[jT];exact(fA.names al hm).2) Wz (fun j b hb=>(fS.h.ok j b hb).1) r2 oM;have bA:tm.length=tm₀.length:=iW.len;have Bq:bF y' (dZ tm r.o.dst r.u) cZ:=by
     have he:=cT.e;rw[q7]at he ⊢;simp[dZ]at he ⊢;refine bF.mk' (by have:=he.2;simpa using this) fun t u hu=>?_;by_cases ht:t=d;subst ht;have DF:t<tm.length:=by have:=(zG.1 hu).1;simpa using this
     rw[List.getElem?_set_self DF]at hu;have⟨v,v1,v2⟩:=he.get (i:=t) (u:=rP al.o x.O.nx) (by rw[List.getElem?_set_self DF]);cases hu;rw[q2];exact⟨v,v1,z6 _ v v2⟩;rw[List.getElem?_set_ne (fun h=>ht h.symm)]at hu;obtain⟨v,v1,v2⟩:=he.get (i:=t) (u:=u) (by rw[List.getElem?_set_ne (fun h=>ht h.symm)];exact hu);refine⟨v,v1,?_⟩;have lJ:tm₀[t]? = some u->aD y' u v:=fun h=>z5 u v (bC.le (fA.names al hm).1 u ((EV _ _).1 Cs u (zX h))) v2;by_cases eH:∀(k:Nat)(q:dR),rs[k]? = some q->q.o.dst≠some t;rw[iW.other t eH]at hu;exact lJ hu;have:∃(k:Nat)(q:dR),rs[k]? = some q/\q.o.dst=some t:=by apply Classical.byContradiction;intro hn;exact eH fun k r hr hd=>hn ⟨k,r,hr,hd⟩
     obtain⟨k,q,hq,hd⟩:=this;by_cases hL:aG.getD k false=true;have DF:t<tm₀.length:=by rw[<-bA];exact(zG.1 hu).1
     rw[iW.yes k q t hq hd DF hL]at hu;cases hu;cases ha:q.act with
     |true=>exfalso;rcases fA.acts k q hq ha with h |⟨K,_,_,_,hLc⟩;obtain⟨al',dK,B0⟩:=DE;exact B0 (Hu bZ eS k al'.i hL (h al' dK));rw[hLc.dst]at hd;cases hd
     |false=>
      cases C9:q.mv with
      |true=>obtain⟨al',dK,NG⟩:=fA.all k q hq ha C9;obtain⟨q',d',p1,p2,_⟩:=fA.at_ al' dK;rw[NG,hq]at p1;cases p1;rw[p2]at v2 ⊢;refine z7 _ _ v (fun h=>?_) (by rw[jT];exact(fA.names al' dK).2) v2;have:=fA.nodup al' dK al hm h;rw[NG,jJ]at this;subst this;exact NJ hL
      |false=>rcases fA.early k q hq ha C9 with h |h;exfalso;obtain⟨al',dK,B0⟩:=DE;exact B0 (Hu bZ eS k al'.i hL (h al' dK));exact z5 _ v (bC.le (fA.names al hm).1 _ h.1) v2
     rw[iW.no k q t hq hd hL]at hu;exact lJ hu
    have S2:St F y' (dZ tm r.o.dst r.u) cZ aH w₁ bB:=⟨z3,z4,Bq,by rw[z2];exact cT.fits,by rw[z2];exact cT.act⟩;have KG:Ke n0 x0 y':=(eR.trans (d8.le (by rw[jT];have:=fA.le;omega))).trans (z5.le (Nat.le_trans cf (fA.names al hm).1));have d9:bQ m0 x0.s w0 aH y'.s w₁:=by rw[z2];exact aS.trans bO
    have Wo:y'.O.nx=O1.nx:=by rw[z1];exact jT
    have UL:∀al'∈lT,gt y'.O.h al'.k=if(aG.setIfInBounds i true).getD al'.i false=true then gt (fC rs O' p).h al'.k else none:=fun al' dK=>by
     rw[z1];simp only[eA];by_cases DL:al.k=al'.k;have hii:=fA.nodup al hm al' dK DL;rw[if_pos DL,if_pos ((jE _).2 (.inr (by rw[<-hii,jJ])))];rw[<-DL];exact F1.symm
     ·rw[if_neg DL,dA al' dK];have d5:al'.i≠i:=fun h=>DL (by obtain⟨q',d',p1,p2,_⟩:=fA.at_ al' dK;rw[h,hr]at p1;cases p1;rw[q2]at p2;cases ho:al.o<;>cases ho':al'.o<;>rw[ho,ho']at p2<;>simp only[rP]at p2<;>first |(cases p2;done)|(simp only[U.ptr.injEq,U.sl.injEq]at p2;exact p2.1));have:((aG.setIfInBounds i true).getD al'.i false=true)↔aG.getD al'.i false=true:=by rw[jE];simp[d5]
      by_cases hL:aG.getD al'.i false=true;rw[if_pos hL,if_pos (this.2 hL)];rw[if_neg hL,if_neg fun h=>hL (this.1 h)]
    have UN:∀j,(∀al∈lT,al.k≠j)->gt y'.O.h j=gt Ob.h j:=fun j hj=>by rw[z1];simp only[eA];rw[if_neg (hj al hm)];exact FP j hj
    by_cases qP:∃al∈lT,¬ (aG.setIfInBounds i true).getD al.i false=true;exact ih _ _ _ aH _ cZ y' p hp CH (by simpa using dS) tQ wV nM qP Wo UL UN S2 d9 KG (fL.trans j6)
    ·-- all allocs have come
     have oO:∀al∈lT,(aG.setIfInBounds i true).getD al.i false=true:=fun al hm=>by apply Classical.byContradiction;intro h;exact qP ⟨al,hm,h⟩
     have CF:∀k,gt (fC rs O' p).h k=gt y'.O.h k:=fun k=>by
      by_cases hj:∀al∈lT,al.k≠k;rw[F3 k hj,UN k hj];have:∃al∈lT,al.k=k:=by apply Classical.byContradiction;intro hc;exact hj fun al hm h=>hc ⟨al,hm,h⟩
      obtain⟨al',dK,rfl⟩:=this;rw[UL al' dK,if_pos (oO al' dK)]
     have⟨y2,k1,k2,k3,k4,k5,k6⟩:=Gh.same (n0:=n0) (tm:=dZ tm r.o.dst r.u) (O:=y'.O) (fC rs O' p).h CF F y' cZ rfl S2.h S2.fr S2.e;have Vt:y2.O=fC rs O' p:=by rw[k2,Wo,<-F4]
     have DT:=k1 aH w₁ S2.fits;refine z2e hT a9 gC bZ DP (n0:=n0) (F:=F) (x0:=x0) (m0:=m0) (w0:=w0) (df:=df) hQ fuel (aG.setIfInBounds i true) bB w₁ aH p (dZ tm r.o.dst r.u) cZ y2 (by simpa using dS) tQ wV (fun e q h1 h2 h3=>?_) nM hp CH Vt ⟨k3,k4,k5,DT.fits,S2.act.ext DT.agree DT.nx⟩ (d9.trans DT) (KG.trans k6) (by rw[Vt,F4];have:=fA.le;omega) (fL.trans j6);have⟨al',dK,NG⟩:=fA.all e q h1 h2 h3;rw[<-NG];exact oO al' dK
   |false=>
    rcases yW with⟨hw,hu,ha,_⟩|⟨hw,pY,hqu⟩|⟨hw,ha,f,args,zR,kI⟩|⟨hw,ha,_,yX⟩|⟨ha,hm,_⟩|⟨hw,ha,_⟩;rw[vQ fS.e (N9.trans hw)];simp[Bool.false_eq_true,if_false];rw[hu]at stay;exact⟨fun _ _=>trivial,stay ND x _ m w _ rfl (fS.skip r.o.dst) aS eR ((P1 _ _ _).trans j6)⟩;rw[vQ fS.e (N9.trans hw)];simp[if_true];rcases fA.early i r hr noact ND with h |h;exact absurd h notall;have⟨g1,g2⟩:=h.2 hw pY;have m5:bM T x.O tm r.o.op=some (r.u,x.O):=by rw[YX pX];exact z4j jC g1 g2
    exact AO (OE m5) (fS.op hT r.o m5 fun y cZ aH w₁ bB e1 cT bO d8 mP fL=>stay ND y cZ aH w₁ bB e1 cT (aS.trans bO) (eR.trans (d8.le (by rw[jT];have:=fA.le;omega))) (fL.trans j6));rw[noact]at ha;cases ha;rw[vQ fS.e (N9.trans hw)];simp[if_true];exact AO (yX.congr pX).nd (fS.free hT r.o (yX.congr pX) fun y cZ aH w₁ bB e1 cT bO d8 mP fL=>stay ND y cZ aH w₁ bB e1 cT (aS.trans bO) (eR.trans (d8.le (by rw[jT];have:=fA.le;omega))) (fL.trans j6));rw[ND]at hm;cases hm;rw[noact]at ha;cases ha
end
def As(mk K:Nat)(q':I U):I Al->Prop
 |[]=>True|al::r=>(Nat.testBit mk al.i=true\/(al.k≠K/\aL al.k q'))/\As mk K q' r
def z4i{mk K:Nat}{q':I U}:∀{l:I Al},As mk K q' l->∀al∈l,Nat.testBit mk al.i=true\/(al.k≠K/\aL al.k q')
 |[],_,al,h=>by cases h
 |x::r,hl,al,h=>by rcases zI.1 h with rfl |h;exact hl.1;exact z4i hl.2 al h
def RA(P:Program)(T:Tb)(a9:I Oper)(nb:Nat)(Oe:Sg)(qa:I Al):I Oper->I U->Sg->I RK->I Al->(I RK->I U->Sg->Prop)->Prop
 |[],tm,O,b7,q,K=>q=[]/\K b7 tm O|o::r,tm,O,b7,q,K=>
  (cM a9 tm o=some true/\∃u,bM T O tm o.op=some (u,O)/\RA P T a9 nb Oe qa r (dZ tm o.dst u) O ((1,⟨tm,o,u,false,false,O,O⟩)::b7) q K)\/ (cM a9 tm o=some true/\∃u O',bM T O tm o.op=some (u,O')/\RA P T a9 nb Oe qa r (dZ tm o.dst u) O' ((3,⟨tm,o,u,true,true,O,O'⟩)::b7) q K)\/ (cM a9 tm o=some true/\∃f args u,kH T tm o.op=some (f,args)/\bE P f args O (fun u' O'=>u'=u/\O'=O)/\RA P T a9 nb Oe qa r (dZ tm o.dst u) O ((2,⟨tm,o,u,true,false,O,O⟩)::b7) q K)\/ (cM a9 tm o=some true/\∃f args u O',kH T tm o.op=some (f,args)/\bE P f args O (fun u' s'=>u'=u/\s'=O')/\RA P T a9 nb Oe qa r (dZ tm o.dst u) O' ((3,⟨tm,o,u,true,true,O,O'⟩)::b7) q K)\/ (cM a9 tm o=some false/\RA P T a9 nb Oe qa r (dZ tm o.dst (.tup [])) O ((0,⟨tm,o,.tup [],false,false,O,O⟩)::b7) q K)\/ (cM a9 tm o=some true/\∃u,AL P T tm o.op u/\bC nb u/\RA P T a9 nb Oe qa r (dZ tm o.dst u) O ((6,⟨tm,o,u,false,false,O,O⟩)::b7) q K)\/ (cM a9 tm o=some true/\∃u,bM T O tm o.op=some (u,O)/\bM T Oe tm o.op=some (u,Oe)/\Y1 o.op=true/\bC nb u/\RA P T a9 nb Oe qa r (dZ tm o.dst u) O ((5,⟨tm,o,u,false,false,O,O⟩)::b7) q K)\/ (∃al q' d,q=al::q'/\al.i=b7.length/\CO P T tm o.op al/\o.guard=none/\o.dst=some d/\RA P T a9 nb Oe qa r (dZ tm o.dst (rP al.o al.k)) O ((4,⟨tm,o,rP al.o al.k,false,true,O,O⟩)::b7) q' K)\/ (cM a9 tm o=some true/\∃u KK c c' e mk,(cP a9 [])[b7.length]? = some mk/\o.dst=none/\gt O.h KK=some (.row c e)/\(∀ τ:Sg,gt τ.h KK=some (.row c e)->bM T τ tm o.op=some (u,⟨ug τ.h KK (.row c' e),τ.nx⟩))/\(∃al∈qa,al.k=KK)/\As mk KK c' qa/\
   RA P T a9 nb Oe qa r (dZ tm o.dst u) ⟨ug O.h KK (.row c' e),O.nx⟩ ((7,⟨tm,o,u,true,true,O,⟨ug O.h KK (.row c' e),O.nx⟩⟩)::b7) q K)
structure KA(P:Program)(T:Tb)(a9:I Oper)(nb:Nat)(Oe:Sg)(x:RK):Prop where
 good:Good P T a9 x.2
 sm:x.1≠3->x.1≠7->x.2.s'=x.2.s
 act:x.2.act=true↔(x.1=2\/x.1=3\/x.1=7)
 mv:x.2.act=false->(x.2.mv=true↔x.1=4)
 lk:x.2.act=false->cM a9 x.2.tm x.2.o=some true->bM T x.2.s x.2.tm x.2.o.op=some (x.2.u,x.2.s')->x.1=1\/x.1=5
 ear:x.2.act=false->x.2.mv=false->x.1=1\/(bC nb x.2.u/\(cM a9 x.2.tm x.2.o=some true->bM T x.2.s x.2.tm x.2.o.op=some (x.2.u,x.2.s')->Y1 x.2.o.op=true/\bM T Oe x.2.tm x.2.o.op=some (x.2.u,Oe)))
def S8{P:Program}{T:Tb}{a9:I Oper}{nb:Nat}{Oe:Sg}{qa:I Al}:∀(rest:I Oper)(tm:I U)(O:Sg)(b7:I RK)(q:I Al)(K:I RK->I U->Sg->Prop),RA P T a9 nb Oe qa rest tm O b7 q K->
  ∃(ks:I RK)(tm':I U)(O':Sg),K (ks.reverse++b7) tm' O'/\ks.length=rest.length/\fC (ks.map (·.2)) O' 0=O/\sN (ks.map (·.2)) tm' 0=tm/\ (∀(i:Nat)(x:RK),ks[i]? = some x->rest[i]? = some x.2.o/\KA P T a9 nb Oe x/\fC (ks.map (·.2)) O' (i+1)=x.2.s'/\sN (ks.map (·.2)) tm' (i+1)=dZ x.2.tm x.2.o.dst x.2.u)/\ (∀(i:Nat)(x:RK),ks[i]? = some x->x.1=7->∃KK c c' e,Loc T a9 qa (b7.length+i) x.2 KK c c' e)/\ (∀(i:Nat)(x:RK),ks[i]? = some x->x.1=4->∃al∈q,al.i=b7.length+i)/\ (∀al∈q,∃(i:Nat)(x:RK)(d:Tmp),al.i=b7.length+i/\ks[i]? = some x/\x.1=4/\x.2.u=rP al.o al.k/\CO P T x.2.tm x.2.o.op al/\x.2.o.guard=none/\x.2.o.dst=some d)
 |[],tm,O,b7,q,K,h=>by obtain⟨rfl,h⟩:=h;exact⟨[],tm,O,h,rfl,rfl,rfl,fun i x hx=>by simp at hx,fun i x hx=>by simp at hx,fun i x hx=>by simp at hx,fun al h=>by cases h⟩
 |o::rest,tm,O,b7,q,K,h=>by
  have step:∀(k:Nat)(u:U)(ac mv:Bool)(O1:Sg)(q':I Al),RA P T a9 nb Oe qa rest (dZ tm o.dst u) O1 ((k,⟨tm,o,u,ac,mv,O,O1⟩)::b7) q' K->KA P T a9 nb Oe (k,⟨tm,o,u,ac,mv,O,O1⟩)->
    (k=7->∃KK c c' e,Loc T a9 qa b7.length ⟨tm,o,u,ac,mv,O,O1⟩ KK c c' e)-> (k≠4/\q=q'\/∃al d,q=al::q'/\al.i=b7.length/\k=4/\u=rP al.o al.k/\CO P T tm o.op al/\o.guard=none/\o.dst=some d)->
    ∃(ks:I RK)(tm':I U)(O':Sg),K (ks.reverse++b7) tm' O'/\ks.length=(o::rest).length/\fC (ks.map (·.2)) O' 0=O/\sN (ks.map (·.2)) tm' 0=tm/\ (∀(i:Nat)(x:RK),ks[i]? = some x->(o::rest)[i]? = some x.2.o/\KA P T a9 nb Oe x/\fC (ks.map (·.2)) O' (i+1)=x.2.s'/\sN (ks.map (·.2)) tm' (i+1)=dZ x.2.tm x.2.o.dst x.2.u)/\ (∀(i:Nat)(x:RK),ks[i]? = some x->x.1=7->∃KK c c' e,Loc T a9 qa (b7.length+i) x.2 KK c c' e)/\ (∀(i:Nat)(x:RK),ks[i]? = some x->x.1=4->∃al∈q,al.i=b7.length+i)/\
     (∀al∈q,∃(i:Nat)(x:RK)(d:Tmp),al.i=b7.length+i/\ks[i]? = some x/\x.1=4/\x.2.u=rP al.o al.k/\CO P T x.2.tm x.2.o.op al/\x.2.o.guard=none/\x.2.o.dst=some d):=by
   intro k u ac mv O1 q' h hk hloc hq;obtain⟨ks,tm',O',g1,g2,g3,g4,g5,g9,g6,g7⟩:=S8 rest _ _ _ _ _ h;refine⟨(k,⟨tm,o,u,ac,mv,O,O1⟩)::ks,tm',O',by simpa using g1,by simp[g2],rfl,rfl,fun i x hx=>?_,fun i x hx h7=>?_,fun i x hx h4=>?_,fun al fA=>?_⟩;cases i with
   |zero=>simp at hx;subst hx;refine⟨rfl,hk,?_,?_⟩;simp only[fC,zQ,zH];exact g3;simp only[sN,zQ,zH];exact g4|succ i=>simp[zH]at hx;obtain⟨k1,k2,k3,k4⟩:=g5 i x hx;refine⟨by simpa using k1,k2,?_,?_⟩;simp only[fC,zQ,zH];exact k3;simp only[sN,zQ,zH];exact k4
   cases i with
   |zero=>simp at hx;subst hx;exact hloc h7|succ i=>
    simp[zH]at hx;have:=g9 i x hx h7;have e:((k,(⟨tm,o,u,ac,mv,O,O1⟩:dR))::b7).length+i=b7.length+(i+1):=by simp;omega
    rwa [e]at this
   cases i with
   |zero=>simp at hx;subst hx;rcases hq with⟨d5,_⟩|⟨al,d,rfl,hi,_⟩;exact absurd h4 d5;exact⟨al,by simp,by omega⟩
   |succ i=>simp[zH]at hx;have⟨al,h1,h2⟩:=g6 i x hx h4;refine⟨al,?_,by simp at h2;omega⟩;rcases hq with⟨_,rfl⟩|⟨al',d,rfl,_⟩;exact h1;exact List.mem_cons_of_mem _ h1
   have later:al∈q'->∃(i:Nat)(x:RK)(d:Tmp),al.i=b7.length+i/\((k,(⟨tm,o,u,ac,mv,O,O1⟩:dR))::ks)[i]? = some x/\x.1=4/\x.2.u=rP al.o al.k/\CO P T x.2.tm x.2.o.op al/\x.2.o.guard=none/\x.2.o.dst=some d:=fun hm=>by have⟨i,x,d,h1,h2,h3⟩:=g7 al hm;exact⟨i+1,x,d,by simp at h1;omega,by simpa using h2,h3⟩
   rcases hq with⟨_,rfl⟩|⟨al',d,rfl,hi,hk4,hu,ho,hg,hd⟩;exact later fA;rcases zI.1 fA with rfl |fA;exact⟨0,_,d,by omega,rfl,hk4,hu,ho,hg,hd⟩;exact later fA
  simp only[RA]at h;rcases h with⟨hw,u,h1,h2⟩|⟨hw,u,O1,h1,h2⟩|⟨hw,f,args,u,h1,h2,h3⟩|⟨hw,f,args,u,O1,h1,h2,h3⟩|⟨hw,h1⟩|⟨hw,u,h1,hb,h3⟩|⟨hw,u,h1,h2,h3,hb,h4⟩|⟨al,q',d,hq,hi,ho,hg,hd,h1⟩|⟨hw,u,KK,c,c',e,mk,hmk,hd,hg,cX,hnm,hlp,h1⟩;exact step 1 u false false O q h2 ⟨.inr (.inl ⟨hw,h1,fun _=>rfl⟩),fun _ _=>rfl,by simp,by simp,fun _ _ _=>.inl rfl,fun _ _=>.inl rfl⟩ (fun h=>by omega) (.inl ⟨by omega,rfl⟩);exact step 3 u true true O1 q h2 ⟨.inr (.inl ⟨hw,h1,by simp⟩),by simp,by simp,by simp,by simp,by simp⟩ (fun h=>by omega) (.inl ⟨by omega,rfl⟩);exact step 2 u true false O q h3 ⟨.inr (.inr (.inl ⟨hw,rfl,f,args,h1,h2⟩)),fun _ _=>rfl,by simp,by simp,by simp,by simp⟩ (fun h=>by omega) (.inl ⟨by omega,rfl⟩);exact step 3 u true true O1 q h3 ⟨.inr (.inr (.inl ⟨hw,rfl,f,args,h1,h2⟩)),by simp,by simp,by simp,by simp,by simp⟩ (fun h=>by omega) (.inl ⟨by omega,rfl⟩);exact step 0 _ false false O q h1 ⟨.inl ⟨hw,rfl,rfl,rfl⟩,fun _ _=>rfl,by simp,by simp,(fun _ h=>by rw[hw]at h;cases h),fun _ _=>.inr ⟨by simp[bC,aL],fun h=>by rw[hw]at h;cases h⟩⟩ (fun h=>by omega) (.inl ⟨by omega,rfl⟩);exact step 6 u false false O q h3 ⟨.inr (.inr (.inr (.inl ⟨hw,rfl,rfl,h1⟩))),fun _ _=>rfl,by simp,by simp,(fun _ _ h=>absurd h (h1.noop _)),fun _ _=>.inr ⟨hb,fun _ h=>absurd h (h1.noop _)⟩⟩ (fun h=>by omega) (.inl ⟨by omega,rfl⟩);exact step 5 u false false O q h4 ⟨.inr (.inl ⟨hw,h1,fun _=>rfl⟩),fun _ _=>rfl,by simp,by simp,fun _ _ _=>.inr rfl,fun _ _=>.inr ⟨hb,fun _ _=>⟨h3,h2⟩⟩⟩ (fun h=>by omega) (.inl ⟨by omega,rfl⟩);exact step 4 _ false true O q' h1 ⟨.inr (.inr (.inr (.inr (.inl ⟨rfl,rfl,rfl⟩)))),fun _ _=>rfl,by simp,by simp,(fun _ _ h=>(ho.ne h).elim),by simp⟩ (fun h=>by omega) (.inr ⟨al,d,hq,hi,rfl,rfl,ho,hg,hd⟩);exact step 7 u true true _ q h1 ⟨.inr (.inl ⟨hw,cX O hg,by simp⟩),by simp,by simp,by simp,by simp,by simp⟩ (fun _=>⟨KK,c,c',e,⟨hnm,hg,rfl,hd,cX,fun al hm=>by rcases z4i hlp al hm with h |h;exact .inl ⟨mk,hmk,h⟩;exact .inr h,hw⟩⟩) (.inl ⟨by omega,rfl⟩)
def kf(k:Nat):Nat:=cond (Nat.beq k 4) 0 (cond (Nat.beq k 5) 1 (cond (Nat.beq k 6) 0 (cond (Nat.beq k 7) 3 k)))
def TY(ai:I Nat)(m:Nat):Bool:=ai.all fun i=>Nat.testBit m i
def Fo(ai:I Nat):I Nat->I Nat->Bool
 |k::ks,m::ms=>cond (Nat.ble 1 k) (cond (Nat.ble k 3) (TY ai m) true) true&&Fo ai ks ms|[],_=>true
 |_::_,[]=>false
def qz1{ai:I Nat}:∀{ks ms:I Nat},Fo ai ks ms=true->∀{i k:Nat},ks[i]? = some k->1<=k->k<=3->∃m,ms[i]? = some m/\∀a∈ai,m.testBit a=true
 |[],ms,_,i,k,hk,_,_=>by simp at hk
 |_::_,[],h,_,_,_,_,_=>by simp[Fo]at h
 |k0::ks,m0::ms,h,i,k,hk,h1,h3=>by
  simp[Fo,Bool.and_eq_true]at h;cases i with
  |zero=>
   simp at hk;subst hk;have a1:Nat.ble 1 k0=true:=by rw[Nat.ble_eq];exact h1
   have a2:Nat.ble k0 3=true:=by rw[Nat.ble_eq];exact h3
   have:=h.1;rw[a1,a2]at this;simp[zC,TY,List.all_eq_true]at this;exact⟨m0,rfl,this⟩
  |succ i=>simp[zH]at hk ⊢;exact qz1 h.2 hk h1 h3
section
variable{P:Program}{T:Tb}
def Ei {a9 : Array Oper} {nb : Nat} {Oe : Sg} {tm : I U} {O : Sg} {ks : I RK} {tm' : I U} {O' : Sg} {pr : I (Nat × Nat)} (bZ : ML a9.toList = true) (gC : Lm P T a9.toList tm O (ks.map (·.2)) tm' O')
    (DL : ∀(i:Nat)(x:RK),ks[i]? = some x->KA P T a9.toList nb Oe x) (xS:qb a9.toList (ks.map fun x=> kf x.1) pr=true) (tK:YJ T ks pr):zl T a9.toList (ks.map (·.2)):=by
  have bA:(ks.map (·.2)).length=a9.toList.length:=gC.len;have same : ∀(p q:Nat),p<=q->q<=ks.length->(∀(e:Nat)(x:RK),p<=e->e<q->ks[e]? = some x->x.1≠3/\x.1≠7)->fC (ks.map (·.2)) O' p=fC (ks.map (·.2)) O' q:=by
    intro p q HD hq eH;induction q with
    | zero => have : p = 0 := by omega
              rw[this]
    |succ q ih=>
      rcases Nat.lt_or_ge q p with h |h;have:p=q+1:=by omega
      rw[this];rw[ih h (by omega) fun e r h1 h2 h3=> eH e r h1 (by omega) h3];have hr:ks[q]? = some ks[q]:=by simp[show q<ks.length by omega]
      have UM:(ks.map (·.2))[q]? = some ks[q].2:=by simp[hr]
      have k3:=(gC.all q _ UM).2.2.1;rw[k3,(DL q _ hr).sm (eH q _ h (zN _) hr).1 (eH q _ h (zN _) hr).2];simp[fC,UM]
  have at_ : ∀(i:Nat)(r:dR),(ks.map (·.2))[i]? = some r->∃k,ks[i]? = some (k,r):=by intro i r hr;simp only[List.getElem?_map]at hr;rcases hk:ks[i]? with _|x;rw[hk]at hr;simp at hr;obtain⟨k,r'⟩:=x;rw[hk]at hr;simp at hr;subst hr;exact⟨k,rfl⟩
  have trp : ∀(i k:Nat)(r:dR),ks[i]? = some (k,r)->∃m,(cP a9.toList [])[i]? = some m/\(trip 0 (ks.map fun x=> kf x.1) (cP a9.toList []))[i]? = some (kf k,m,lE ((ks.map fun x=> kf x.1).take i)):=by
    intro i k r hk;obtain⟨m1,_,_⟩:=kj a9.toList [];have hi:i<a9.toList.length:=by rw[<-bA];simp only[yA];exact(zG.1 hk).1
    have hm:i<(cP a9.toList []).length:=by rw[m1];simpa using hi
    refine⟨(cP a9.toList [])[i],by simp[hm], ?_⟩;have:=fj (ks.map fun x=> kf x.1) (cP a9.toList []) 0 i (kf k) _ (by simp[hk]) (show(cP a9.toList [])[i]? = some (cP a9.toList [])[i] by simp[hm])
    rwa [Nat.zero_add]at this
  have chk : ∀ (i k ki kk : Nat) (r q : dR), ks[i]? = some (ki, r) -> ks[k]? = some (kk, q) -> ∃ mi mk, (cP a9.toList [])[i]? = some mi /\ (cP a9.toList [])[k]? = some mk /\
      PU pr i (kf ki,mi,lE ((ks.map fun x=> kf x.1).take i)) k (kf kk,mk,lE ((ks.map fun x=> kf x.1).take k))=true:=by
    intro i k ki kk r q hi hk;obtain⟨mi,e1,e2⟩:=trp i ki r hi;obtain⟨mk,e3,e4⟩:=trp k kk q hk;refine⟨mi,mk,e1,e3, ?_⟩;have h1:=Pg xS e2;have h2:=Pg h1 e4;simpa using h2
  have nomv : ∀(p q:Nat),p<=q->q<=ks.length->lE ((ks.map fun x=> kf x.1).take p)=lE ((ks.map fun x=> kf x.1).take q)->fC (ks.map (·.2)) O' p=fC (ks.map (·.2)) O' q:=by intro p q HD hq hc;refine same p q HD hq fun e x h1 h2 h3=> ?_;have:=qyl HD (by simp;omega) hc e (kf x.1) h1 h2 (by simp[h3]);exact⟨fun h4=> this (by rw[h4];rfl),fun h4=> this (by rw[h4];rfl)⟩
  have kact : ∀(i:Nat)(r:dR),(ks.map (·.2))[i]? = some r->r.act=true->∃k,ks[i]? = some (k,r)/\Nat.ble 2 (kf k)=true/\(k=2\/k=3\/k=7):=by intro i r hr ha;obtain⟨k,hk⟩:=at_ i r hr;have:=(DL i _ hk).act.1 ha;refine⟨k,hk, ?_,this⟩;rcases this with h |h |h<;>(simp only[]at h;subst h;rfl)
  have kqu : ∀(i:Nat)(r:dR),(ks.map (·.2))[i]? = some r->r.act=false->cM a9.toList r.tm r.o=some true->bM T r.s r.tm r.o.op=some (r.u,r.s')->∃k,ks[i]? = some (k,r)/\kf k=1:=by intro i r hr ha hw hl;obtain⟨k,hk⟩:=at_ i r hr;refine⟨k,hk, ?_⟩;rcases(DL i _ hk).lk ha hw hl with h |h<;>(simp only[]at h;subst h;rfl)
  have succ : ∀(l:I Nat)(a k:Nat),l[a]? = some k->lE (l.take (a+1))=lE (l.take a)+Bf k:=by
    intro l;induction l with
    |nil=> intro a k h;simp at h|cons x l ih=>
      intro a k h;cases a with
      |zero=> simp at h;subst h;simp[lE]|succ a=> simp only[zH]at h;simp only[List.take_succ_cons,lE];rw[ih a k h];omega
  have wZ:Nat.ble 2 1=false:=rfl;have rK:Nat.beq 1 1=true:=rfl;refine⟨fun i k r q hr hq ha hb aE=> ?_,fun i k r q hr hq ha hw hl hb aE=> ?_,fun i k r q hr hq ha hw hl hb aE=> ?_⟩;obtain⟨ki,h1,h2,_⟩:=kact i r hr ha;obtain⟨kk,h3,h4,_⟩:=kact k q hq hb;obtain⟨mi,mk,e1,e2,e3⟩:=chk i k ki kk r q h1 h3;simp only[PU,h2,h4,zC,pF aE]at e3;exact⟨mi,e1,e3⟩;obtain⟨ki,h1,Cf⟩:=kqu i r hr ha hw hl;obtain⟨kk,h3,h4,_⟩:=kact k q hq hb;obtain⟨mi,mk,e1,e2,e3⟩:=chk i k ki kk r q h1 h3;simp only[PU,Cf,wZ,rK,h4,zC,zD,pF aE,Bool.or_eq_true]at e3;rcases e3 with e3 |e3 |e3;exact .inl ⟨mi,e1,e3⟩;have:=nomv k i (by omega) (by have:=(zG.1 h1).1;omega) (Nat.eq_of_beq_eq_true e3);exact .inr (.inl (by simpa[fC,h1,h3]using this));have:=Ro tK _ (Pe e3);simp only[Gc,jA,h1,h3,pF aE,zC]at this;exact .inr (.inr this);obtain⟨ki,h1,Cf⟩:=kqu i r hr ha hw hl;obtain⟨kk,h3,h4,_⟩:=kact k q hq hb;obtain⟨mi,mk,e1,e2,e3⟩:=chk i k ki kk r q h1 h3;simp only[PU,Cf,wZ,rK,h4,zC,zD,H6 (show ¬ k<i by omega),Bool.or_eq_true]at e3;rcases e3 with e3 |e3 |e3;exact .inl ⟨mk,e2,e3⟩;have hc:lE ((ks.map fun x=> kf x.1).take i)=lE ((ks.map fun x=> kf x.1).take (k+1)):=by rw[succ _ k (kf kk) (by simp[h3])];exact Nat.eq_of_beq_eq_true e3
  have:=nomv i (k+1) (by omega) (by have:=(zG.1 h3).1;omega) hc;have h2:=(gC.all k q hq).2.2.1;rw[h2]at this;exact .inr (.inl (by simpa[fC,h1]using this.symm));have:=Ro tK _ (Pe e3);simp only[Gc,jA,h1,h3,H6 (show ¬ k<i by omega),zD]at this;exact .inr (.inr this)
end
def E7:Sg->I (Nat×V Nat×I U×X)->Sg
 |O,[]=>O|O,x::r=>E7 (newU O (.row x.2.2.1 x.2.2.2)) r
def xI:Nat->I (Nat×V Nat×I U×X)->I Al
 |_,[]=>[]|n,x::r=>⟨x.1,n,x.2.1,x.2.2.1,x.2.2.2⟩::xI (n+1) r
def Gy:∀(L:I (Nat×V Nat×I U×X))(O:Sg),(E7 O L).nx=O.nx+L.length
 |[],O=>rfl|x::r,O=>by simp[E7,Gy r,newU,zO];omega
def Gn:∀{L:I (Nat×V Nat×I U×X)}{n:Nat}{al:Al},al∈xI n L->n<=al.k/\al.k<n+L.length
 |[],n,al,h=>by cases h
 |x::r,n,al,h=>by rcases zI.1 h with rfl |h;simp;have:=Gn h;simp[zO];omega
def z2c:∀{L:I (Nat×V Nat×I U×X)}{n:Nat}{a b:Al},a∈xI n L->b∈xI n L->a.k=b.k->a=b
 |[],n,a,b,h,_,_=>by cases h
 |x::r,n,a,b,ha,hb,hk=>by rcases zI.1 ha with rfl |ha;rcases zI.1 hb with rfl |hb;rfl;have:=Gn hb;simp only at hk;omega;rcases zI.1 hb with rfl |hb;have:=Gn ha;simp only at hk;omega;exact z2c ha hb hk
def om:∀(L:I (Nat×V Nat×I U×X))(O:Sg){j:Nat},(∀al∈xI O.nx L,al.k≠j)->gt (E7 O L).h j=gt O.h j
 |[],O,j,_=>rfl|x::r,O,j,hj=>by have h1:=hj ⟨x.1,O.nx,x.2.1,x.2.2.1,x.2.2.2⟩ (by simp[xI]);simp[E7];rw[om r (newU O (.row x.2.2.1 x.2.2.2)) fun al hm=>hj al (by simp[xI,zI];exact .inr hm)];simp only[newU,eA];rw[if_neg h1]
def qy9:∀{L:I (Nat×V Nat×I U×X)}{O:Sg}{al:Al},al∈xI O.nx L->gt (E7 O L).h al.k=some (.row al.l al.e)
 |[],O,al,h=>by cases h
 |x::r,O,al,h=>by rcases zI.1 h with rfl |h;simp[E7];rw[om r (newU O (.row x.2.2.1 x.2.2.2)) fun al hm=>?_];simp[newU,eA];have:=Gn hm;simp[newU]at this;omega;exact qy9 (O:=newU O (.row x.2.2.1 x.2.2.2)) h
def wa:I (Nat×V Nat×I U×X)->Prop
 |[]=>True|x::r=>aL 0 x.2.2.1/\wa r
def qwx:∀{L:I (Nat×V Nat×I U×X)}{n:Nat},wa L->∀al∈xI n L,aL 0 al.l
 |[],n,_,al,h=>by cases h
 |x::r,n,hz,al,h=>by rcases zI.1 h with rfl |h;exact hz.1;exact qwx hz.2 al h
section
variable{C:PG}{T:Tb}(hT:lP C.prog T){n0:Nat}{Q:Exit->I U->Sg->Prop}{tm:I U}{O:Sg}
include hT
def WPU.drawA{id:Nat}{a9:Array Oper}(L:I (Nat×V Nat×I U×X))(pr:I (Nat×Nat))(bZ:ML a9.toList=true)(hL:L≠[])(hz:wa L)
  (h:RA C.prog T a9.toList O.nx ⟨O.h,O.nx+L.length⟩ (xI O.nx L) a9.toList tm (E7 O L) [] (xI O.nx L) (fun ks tm' O'=>qb a9.toList (ks.reverse.map fun x=>kf x.1) pr=true/\Fo (L.map (·.1)) (ks.reverse.map (·.1)) (cP a9.toList [])=true/\YJ T ks.reverse pr/\Q .normal tm' O')):WPU C n0 (.region id a9 true) tm O Q:=fun hn F x tv m w a b0 hx st hG hd ro jI=>by
 obtain⟨ks,tm',O',⟨xS,UP,tK,hQ⟩,g2,g3,g4,g5,g9,g6,g7⟩:=S8 _ _ _ _ _ _ h;simp only[List.append_nil,List.reverse_reverse,zS,Nat.zero_add]at xS UP tK g6 g7 g9;have ati:∀(i:Nat)(r:dR),(ks.map (·.2))[i]? = some r->∃k,ks[i]? = some (k,r):=by intro i r hr;simp only[List.getElem?_map]at hr;rcases hk:ks[i]? with _|x;rw[hk]at hr;simp at hr;obtain⟨k,r'⟩:=x;rw[hk]at hr;simp at hr;subst hr;exact⟨k,rfl⟩
 have gC:Lm C.prog T a9.toList tm (E7 O L) (ks.map (·.2)) tm' O':=⟨by simpa using g2,g3,g4,fun i r hr=>by obtain⟨k,hk⟩:=ati i r hr;obtain⟨a,b,c,d⟩:=g5 i _ hk;exact⟨a,b.good,c,d⟩⟩;have DP:zl T a9.toList (ks.map (·.2)):=Ei bZ gC (fun i x hx=>(g5 i x hx).2.1) xS tK;have inai:∀al∈xI O.nx L,al.i∈L.map (·.1):=by
  have:∀(L:I (Nat×V Nat×I U×X))(n:Nat),∀al∈xI n L,al.i∈L.map (·.1):=by
   intro L;induction L with
   |nil=>intro n al h;cases h|cons x r ih=>intro n al h;rcases zI.1 h with rfl |h;simp;simp only[zQ,zI];exact .inr (ih _ al h)
  exact this L O.nx
 have late:∀(i k:Nat)(r:dR),ks[i]? = some (k,r)->1<=k->k<=3->∀al∈xI O.nx L,Pre a9.toList i al.i:=fun i k r hk h1 h3 al hm=>by obtain⟨mk,e1,e2⟩:=qz1 UP (i:=i) (k:=k) (by simp[hk]) h1 h3;exact⟨mk,e1,e2 _ (inai al hm)⟩
 have fA:ChA C.prog T a9.toList tm O (E7 O L) (ks.map (·.2)) (xI O.nx L):=by
  refine⟨?_,fun al hm=>by rw[Gy];exact Gn hm,fun a ha b hb hk=>by rw[z2c ha hb hk],by rw[Gy];omega,fun al hm=>?_,qwx hz,fun i r hr ha hv=>?_,fun al hm=>qy9 hm,fun j hj=>om L O hj,fun i r hr ha=>?_,fun i r hr ha hv=>?_⟩;rcases L with _|⟨x,r⟩;exact absurd rfl hL;simp[xI];obtain⟨i,x,d,e1,e2,e3,e4,e5,e6,e7⟩:=g7 al hm;have hk:=(g5 i x e2).2.1;have nS:x.2.act=false:=by rcases hb:x.2.act with _|_;rfl;have:=hk.act.1 hb;omega
  exact⟨x.2,d,by rw[e1];simp[e2],e4,nS,(hk.mv nS).2 e3,e5,e6,e7⟩;obtain⟨k,hk⟩:=ati i r hr;have:=((g5 i _ hk).2.1.mv ha).1 hv;exact g6 i _ hk this;have⟨k,hk⟩:=ati i r hr;have:=(g5 i _ hk).2.1.act.1 ha;simp[]at this;by_cases h7:k=7;exact .inr (g9 i _ hk h7);exact .inl (late i k r hk (by omega) (by omega));have⟨k,hk⟩:=ati i r hr;rcases(g5 i _ hk).2.1.ear ha hv with h |h;simp[]at h;exact .inl (late i k r hk (by omega) (by omega));rw[Gy];exact .inr h
 subst hx;have yO:Mo x.O.nx x ⟨x.Y,⟨x.O.h,(E7 x.O L).nx⟩,x.s⟩:=⟨fun k _ h2=>⟨by simp[Gy];omega,fun b hb=>⟨b,hb,zF _,fun _=>⟨rfl,fun l e sz st h=>⟨l,h⟩⟩⟩⟩,fun _ _ _ h=>h⟩;have QB:∀j b,gt x.O.h j=some b->j<x.O.nx/\BelB x.O.nx b:=fun j b hb=>⟨(st.h.ok j b hb).1,(st.h.ok j b hb).2.belB⟩;have eH:∀k,(Array.replicate a9.size false).getD k false=false:=fun k=>by by_cases hk:k<a9.size<;>simp[Array.getD,hk]
 refine wpIn_region_any hT.mixed ?_;refine zb1 (ro:=ro) hT a9 gC bZ DP fA hn st.e.bel QB (F:=F) (x0:=x) (m0:=m) (w0:=w) (df:=a.defers) (fun y cZ m' w' a' h1 h2 h3 h4 h5 h6=>⟨y,tm',cZ,m',h1 ▸ hQ,h2,h3,h4,h5,by rw[h6];exact hd.adv st.fits h3⟩) a9.size (Array.replicate a9.size false) a _ m tm tv ⟨x.Y,⟨x.O.h,(E7 x.O L).nx⟩,x.s⟩ 0 (Nat.zero_le _) (fun e r _ _=>by rw[eH];simp) (by simp) (by simp) ?_ ?_ ?_ rfl ?_ (fun _ _=>rfl) ?_ ?_ (yO.ke.le hn) rfl;intro k q hk;rw[eH]at hk;cases hk;have:=k_ (rs:=ks.map (·.2)) (tm₀:=tm);exact⟨this.len,fun k r d _ _ _ hL=>(by rw[eH]at hL;cases hL),fun k r d g1 g2 _=>this.no k r d g1 g2 (fun x=>x),this.other⟩;rcases hA:xI x.O.nx L with _|⟨al,r⟩;exact absurd hA fA.some;exact⟨al,by simp,by rw[eH];simp⟩;intro al hm;rw[eH];simp[Bool.false_eq_true,if_false];rcases hg:gt x.O.h al.k with _|b;rfl;have:=(QB _ _ hg).1;have:=(Gn hm).1;omega;refine⟨⟨fun k b hb=>?_,st.h.inj,st.h.bd⟩,st.fr,yO.ke.E st.e.bel st.e,(bQ.draw _ st.fits).fits,st.act⟩;have⟨h1,h2⟩:=st.h.ok k b hb;exact⟨by simp[Gy];omega,h2.mono yO rfl fun _ _ _ h=>h⟩;exact bQ.draw _ st.fits
end
section
variable{P:Program}{T:Tb}{a9 r:I Oper}{o:Oper}{n nb:Nat}{Oe:Sg}{l:I (Nat×U)}{O O':Sg}{b7:I RK}{q qa:I Al}{K:I RK->I U->Sg->Prop}{u:U}
variable{d:Tmp}
def RQ.look(hw:cM a9 (fr n l) o=some true)(h:bM T O (fr n l) o.op=some (u,O))(he:o.dst=some d)(hd:Nat.blt d n=true)(hk:RA P T a9 nb Oe qa r (fr n ((d,u)::l)) O ((1,⟨fr n l,o,u,false,false,O,O⟩)::b7) q K):RA P T a9 nb Oe qa (o::r) (fr n l) O b7 q K :=
 .inl ⟨hw,u,h,by rw[he,sZ (d:=some d) u hd];exact hk⟩
def RQ.act(hw:cM a9 (fr n l) o=some true)(h:bM T O (fr n l) o.op=some (u,O'))(he:o.dst=some d)(hd:Nat.blt d n=true)(hk:RA P T a9 nb Oe qa r (fr n ((d,u)::l)) O' ((3,⟨fr n l,o,u,true,true,O,O'⟩)::b7) q K):RA P T a9 nb Oe qa (o::r) (fr n l) O b7 q K :=
 .inr (.inl ⟨hw,u,O',h,by rw[he,sZ (d:=some d) u hd];exact hk⟩)
def RQ.actn(hw:cM a9 (fr n l) o=some true)(h:bM T O (fr n l) o.op=some (u,O'))(he:o.dst=none)(hk:RA P T a9 nb Oe qa r (fr n l) O' ((3,⟨fr n l,o,u,true,true,O,O'⟩)::b7) q K):RA P T a9 nb Oe qa (o::r) (fr n l) O b7 q K :=
 .inr (.inl ⟨hw,u,O',h,by rw[he];exact hk⟩)
variable{f:FuncId}
variable{args:I U}
def RQ.call(hw:cM a9 (fr n l) o=some true)(hc:kH T (fr n l) o.op=some (f,args))(kI:bE P f args O (fun u' O'=>u'=u/\O'=O))(he:o.dst=some d)(hd:Nat.blt d n=true)(hk:RA P T a9 nb Oe qa r (fr n ((d,u)::l)) O ((2,⟨fr n l,o,u,true,false,O,O⟩)::b7) q K):RA P T a9 nb Oe qa (o::r) (fr n l) O b7 q K :=
 .inr (.inr (.inl ⟨hw,f,args,u,hc,kI,by rw[he,sZ (d:=some d) u hd];exact hk⟩))
def RQ.free(hw:cM a9 (fr n l) o=some true)(hc:kH T (fr n l) o.op=some (f,args))(kI:∀s,bE P f args s (fun u' O'=>u'=u/\O'=s))(hb:bC nb u)(he:o.dst=some d)(hd:Nat.blt d n=true)(hk:RA P T a9 nb Oe qa r (fr n ((d,u)::l)) O ((6,⟨fr n l,o,u,false,false,O,O⟩)::b7) q K):RA P T a9 nb Oe qa (o::r) (fr n l) O b7 q K :=
 .inr (.inr (.inr (.inr (.inr (.inl ⟨hw,u,.inl ⟨f,args,hc,kI⟩,hb,by rw[he,sZ (d:=some d) u hd];exact hk⟩)))))
def RQ.early(hw:cM a9 (fr n l) o=some true)(h:bM T O (fr n l) o.op=some (u,O))(h0:bM T Oe (fr n l) o.op=some (u,Oe))(hn:Y1 o.op=true)(hb:bC nb u)(he:o.dst=some d)(hd:Nat.blt d n=true)(hk:RA P T a9 nb Oe qa r (fr n ((d,u)::l)) O ((5,⟨fr n l,o,u,false,false,O,O⟩)::b7) q K):RA P T a9 nb Oe qa (o::r) (fr n l) O b7 q K :=
 .inr (.inr (.inr (.inr (.inr (.inr (.inl ⟨hw,u,h,h0,hn,hb,by rw[he,sZ (d:=some d) u hd];exact hk⟩))))))
def RQ.alloc{al:Al}(hi:al.i=b7.length)(ho:∀s,bM T s (fr n l) o.op=some (rP al.o s.nx,newU s (.row al.l al.e)))(hg:o.guard=none)(he:o.dst=some d)(hd:Nat.blt d n=true)(hk:RA P T a9 nb Oe qa r (fr n ((d,rP al.o al.k)::l)) O ((4,⟨fr n l,o,rP al.o al.k,false,true,O,O⟩)::b7) q K):RA P T a9 nb Oe qa (o::r) (fr n l) O b7 (al::q) K :=
 .inr (.inr (.inr (.inr (.inr (.inr (.inr (.inl ⟨al,q,d,rfl,hi,.inl ho,hg,he,by rw[he,sZ (d:=some d) _ hd];exact hk⟩)))))))
def RQ.mcall{al:Al}(hi:al.i=b7.length)(hc:kH T (fr n l) o.op=some (f,args))(ho:∀s,bE P f args s (fun u s'=>u=rP al.o s.nx/\s'=newU s (.row al.l al.e)))(hg:o.guard=none)(he:o.dst=some d)(hd:Nat.blt d n=true)(hk:RA P T a9 nb Oe qa r (fr n ((d,rP al.o al.k)::l)) O ((4,⟨fr n l,o,rP al.o al.k,false,true,O,O⟩)::b7) q K):RA P T a9 nb Oe qa (o::r) (fr n l) O b7 (al::q) K :=
 .inr (.inr (.inr (.inr (.inr (.inr (.inr (.inl ⟨al,q,d,rfl,hi,.inr ⟨f,args,hc,ho⟩,hg,he,by rw[he,sZ (d:=some d) _ hd];exact hk⟩)))))))
def RQ.done(h:K b7 (fr n l) O):RA P T a9 nb Oe qa [] (fr n l) O b7 [] K:=⟨rfl,h⟩
end
section
variable{C:PG}{T:Tb}(hT:lP C.prog T){n0:Nat}{Q:Exit->I U->Sg->Prop}{tm:I U}{O:Sg}
include hT
def WPU.drawQ{id:Nat}{a9:Array Oper}(L:I (Nat×V Nat×I U×X))(pr:I (Nat×Nat)){nb:Nat}{Oe O1:Sg}{q:I Al}(bZ:ML a9.toList=true)(hL:L≠[])(hz:wa L)
  (h1:O.nx=nb) (h2:(⟨O.h,O.nx+L.length⟩:Sg)=Oe) (h3:E7 O L=O1) (h4:xI O.nx L=q)
  (h:RA C.prog T a9.toList nb Oe q a9.toList tm O1 [] q (fun ks tm' O'=>qb a9.toList (ks.reverse.map fun x=>kf x.1) pr=true/\Fo (L.map (·.1)) (ks.reverse.map (·.1)) (cP a9.toList [])=true/\YJ T ks.reverse pr/\Q .normal tm' O')):WPU C n0 (.region id a9 true) tm O Q:=by subst h1 h2 h3 h4;exact WPU.drawA hT L pr bZ hL hz h
end
def bE.maker{P:Program}{f:FuncId}{args l:I U}{e:X}(h:∀s,bE P f args s (fun u s'=>∃t:Nat->Nat,u=.ptr (s.nx+1) 0 0/\s'=⟨(s.nx+1,.row l e)::s.h,s.nx+2⟩))[hl:fB 0 l](s:Sg):
  bE P f args s (fun u s'=>u=rP none s.nx/\s'=newU s (.row l e)):=fun F x vs m w bI hx hh mJ he fT dB=>by
 refine(h s F x vs m w bI hx hh mJ he fT dB).mono ?_;rintro ex w₁ ⟨y,aH,u,v,cv,q1,⟨_,rfl,q2⟩,q3,q4,q5,q6,q7,q8,q9⟩;subst hx;have aE:∀j b,gt x.O.h j=some b->j<x.O.nx+1:=fun j b hb=>by have:=(hh.ok j b hb).1;omega
 have Wz:gt x.O.h x.O.nx=none:=by rcases hg:gt x.O.h x.O.nx with _|b;rfl;have:=(hh.ok _ b hg).1;omega
 have⟨y',z1,z2,z3,z4,z5,z6,z7⟩:=z4t (F:=F) (nx0:=x.O.nx) (k:=x.O.nx) (O:=⟨x.O.h,x.O.nx+1⟩) q2 q5 q6 (zF _) (zN _) Wz aE hl.h (fun j b hb=>(hh.ok j b hb).2.belB);exact⟨y',aH,_,v,cv,q1,⟨rfl,z1⟩,by rw[z2];exact q3,by rw[z2];exact q4,z3,z4,z6 none v q7,q8.trans z5,by rw[z1];show x.O.nx<=x.O.nx+1;omega⟩
def WPU.label{C:PG}{n0:Nat}{tm:I U}{O:Sg}{Q:Exit->I U->Sg->Prop}{l:Nat}(h:Q .normal tm O):WPU C n0 (.label l) tm O Q:=fun hn F x tv m w a b0 hx st hG hd ro jI=>wpIn_label ⟨x,tm,tv,m,hx ▸ h,st,bQ.refl st.fits,Ke.refl _ _,hx ▸ hn,hd⟩
def z1s{F:Fence}{n:Nat}{P:Program}{Q:Exit->Act->World->Prop}{a:Act}{w:World}{c:Code}(h:c.wpIn F n P Q a w)(hq:∀l a w,¬ Q (.goto l) a w):(Code.scope c).wpIn F n P Q a w:=by
 intro b k cs jI hb hr;have s1:step P (lone (b.atR a (.code (.scope c)::k)) cs w)=.next (lone (b.atR a (.code c :: .inScope c::k)) cs w):=step_lone_go (by simp[stepG,stepG.exec,Frame.atR]);have s2:∀a w,step P (lone (b.atR a (.inScope c::k)) cs w)=.next (lone (b.atR a k) cs w):=fun a w=>step_lone_go (by simp[stepG,stepG.exec,Frame.atR]);have h0:(lone (b.atR a (.code (.scope c)::k)) cs w).fenced P F:=fenced_calm hb hr rfl;have⟨e,bB,w₁,Ks,nR⟩:=h b (.inScope c::k) cs jI hb hr;cases e with
 |normal=>exact⟨.normal,bB,w₁,Ks,.head h0 s1 (StepsIn.trans nR (.one (fenced_calm hb hr rfl) (s2 _ _)))⟩|exit id=>
  have hx:exitTo id (.inScope c::k)=exitTo id k:=by simp[exitTo]
  exact⟨.exit id,bB,w₁,Ks,fun k' hk=>.head h0 s1 (nR.1 k' (by rw[hx];exact hk)),fun hr' hk=>let ⟨p?,h1,h2⟩:=nR.2 hr' (by rw[hx];exact hk); ⟨p?,h1,.head h0 s1 h2⟩⟩
 |goto l=>exact(hq l _ _ Ks).elim|ret=>exact⟨_,bB,w₁,Ks,.of_steps (.one h0 s1) nR⟩
 |panic ch=>exact⟨_,bB,w₁,Ks,.of_steps (.one h0 s1) nR⟩|outgrown=>exact⟨_,bB,w₁,Ks,.of_steps (.one h0 s1) nR⟩
def WPU.scope{C:PG}{n0:Nat}{tm:I U}{O:Sg}{Q:Exit->I U->Sg->Prop}{c:Code}(h:WPU C n0 c tm O Q)(hq:∀l tm O,¬ Q (.goto l) tm O:=by intro l tm O h;rcases h.1 with h |h<;>cases h):WPU C n0 (.scope c) tm O Q:=fun hn F x tv m w a b0 hx st hG hd ro jI=>z1s (h hn F x tv m w a b0 hx st hG hd ro jI) fun l a w ⟨_,tm',_,_,h1,_⟩=>hq l _ _ h1
class TbP(P:Program)(T:outParam Tb):Prop where
 ok:lP P T
class th(C:PG)(T:outParam Tb):Prop where
 ok:lP C.prog T
instance{P:Program}{T:Tb}[h:TbP P T]:th (PG.of P) T:=⟨h.ok⟩
section
variable{P:Program}{T:Tb}{a9 r:I Oper}{o:Oper}{n:Nat}{l:I (Nat×U)}{O O':Sg}{u:U}
def aO{C:PG}{K:I U->Sg->Prop}{d:Tmp}(he:o.dst=some d)(h:bM T O (fr n l) o.op=some (u,O'))(hk:RU C T a9 r (fr n ((d,u)::l)) O' K)(hw:cM a9 (fr n l) o=some true:=by exact rfl)(hd:Nat.blt d n=true:=by exact rfl):RU C T a9 (o::r) (fr n l) O K:=RS.op hw h he hd hk
def aQ{b7:I RK}{K:I RK->I U->Sg->Prop}{d:Tmp}(he:o.dst=some d)(h:bM T O (fr n l) o.op=some (u,O))(hk:RH P T a9 r (fr n ((d,u)::l)) O ((1,⟨fr n l,o,u,false,false,O,O⟩)::b7) K)(hw:cM a9 (fr n l) o=some true:=by exact rfl)(hd:Nat.blt d n=true:=by exact rfl):RH P T a9 (o::r) (fr n l) O b7 K:=RD.look hw h he hd hk
end
def st{A B:Prop}(h:B)(g:B->A:=by intro h;(repeat refine Go.Vx.gq ?_);(repeat refine Go.Vx.sq ?_);exact h):A:=g h
def bE.viewT{P:Program}{f:FuncId}{args args':I U}{O:Sg}{us:I U}{rs:I M}(h:bE P f args ⟨[],0⟩ (fun u' _=>u'=.tup us/\bC 0 u'))(ha:aL 0 args)(hu:eY us=some rs)(C8:∀m,aJ m rs=rs){O1:Sg}(hg:Gh 0 args' O args O1):bE P f args' O (fun u' O'=>u'=.tup us/\O'=O):=fun F x vs m w bI hx hh mJ he fT dB=>by
 have⟨y1,a1,a2,a3,a4,a5,a6⟩:=hg F x vs hx hh mJ he;have jK:=a1 m w fT;have d9:=bQ.less jK.fits (qrq y1.s);have gD:Mo 0 y1 (cx (EM y1.s)):=⟨fun k hk=>by omega,fun i row e hl=>by show lk (EM y1.s).h i=_;rw[YQ,hl];rfl⟩;have eH:∀b,¬ RC m (EM y1.s) b:=fun b ⟨i,c,hc,ho,_⟩=>by rw[YQ]at hc;obtain⟨_,l,e,rfl⟩:=Qh hc;simp[Rx.Own]at ho
 refine(h (fun _ _=>False) (cx (EM y1.s)) vs m w bI rfl ⟨fun k b hb=>by simp[cx,gt]at hb,fun k k' b b' i hb=>by simp[cx,gt]at hb,fun i b hb=>?_⟩ (fun _ _ J=>J.elim) (gD.ke.E ha a5) d9.fits (dB.ext (aN.refl _ _) (Nat.le_trans jK.nx d9.nx))).mono ?_;have cV:lk (EM y1.s).h i=some b:=hb;rw[YQ]at cV;exact a3.bd i b (Qh cV).1;rintro e oA ⟨y2,FA,u',v',cv,rfl,⟨rfl,_⟩,aS,hO,_,_,DH,_,_⟩;simp[aD]at DH;obtain⟨IA,rfl,O?,M?⟩:=DH;have hv:=(H7 us rs hu y2 IA).1 ⟨O?,M?⟩;subst hv;have hcv:cv=.tuple ⟨IA⟩:=by rw[<-hO.at];simp[aI,iJ,C8]
 subst hcv;have yQ:∀b,b<w.heap.size->oA.heap[b]? = w.heap[b]?:=fun b aE=>aS.same b aE (eH b);refine⟨x,m,.tup us,.tuple ⟨IA⟩,.tuple ⟨IA⟩,rfl,⟨rfl,hx⟩,⟨aN.refl _ _,zF _,fun m' dK=>?_,fun b h=>.inl h,fun b aE _=>yQ b aE,aS.size,aS.os,aS.tape,aS.output⟩,fun m' _=>by simp only[aI,iJ,C8],hh,mJ,by simp only[aD];exact⟨IA,rfl,((H7 us IA hu x IA).2 rfl).1,((H7 us IA hu x IA).2 rfl).2⟩,Ke.refl _ _,zF _⟩;have yY:=fT m' dK;exact⟨fun i b hb=>(yY.ok i b hb).world (yQ _ (yY.size hb)),yY.inj,yY.bd⟩
class gG{v11:Type}(c:v11->I U)(n:outParam Nat):Prop where
 h:∀x,(c x).length=n
instance(k:IntKind):gG (cI k) 1:=⟨kN k⟩
instance:gG cS 1:=⟨OJ⟩
instance{v11:Type}(c:v11->I U):gG (cL c) 1:=⟨SK c⟩
abbrev U.iM{v11:Type}(c:v11->I U)(l:I v11):U:=.isl false (l.map c)
abbrev U.i6(z:Int):U:=.int .i64 z
variable{P:Program}
variable{f:FuncId}
variable{args:I U}
variable{u:U}
def pC(h:bE P f args ⟨[],0⟩ (fun u' _=>u'=u/\bC 0 u'))[q:fB 0 args](O:Sg):bE P f args O (fun u' O'=>u'=u/\O'=O):=f' h O
def sI{v11:Type}{a b:v11}(h:some a=some b):a=b:=Option.some.inj h
class Nq(a b:Nat):Prop where
 h:Nat.beq a b=false
instance{b:Nat}:Nq 0 (b+1):=⟨rfl⟩
instance{b:Nat}:Nq (b+1) 0:=⟨rfl⟩
instance{a b:Nat}[q:Nq a b]:Nq (a+1) (b+1):=⟨q.h⟩
class CP(h:I (Nat×B))(K:Nat)(b:outParam B):Prop where
 h:gt h K=some b
instance(priority:=low){K k:Nat}{x b:B}{t:I (Nat×B)}[n:Nq k K][g:CP t K b]:CP ((k,x)::t) K b:=⟨by simp[gt,n.h,zD,g.h]⟩
instance{K:Nat}{b:B}{t:I (Nat×B)}:CP ((K,b)::t) K b:=⟨by simp[gt]⟩
class zh(b:B):Prop where
 h:∀es cl,b≠.map es cl
instance{l:I U}{e:X}:zh (.row l e):=⟨fun _ _=>nofun⟩
instance{l:I U}{e:X}{s t:Nat}:zh (.vec l e s t):=⟨fun _ _=>nofun⟩
class Ck(n sz:Nat)(l:I U)(r:outParam (I (I U))):Prop where
 h:n*sz<=l.length
 e:cD sz n l=r
instance{s:Nat}{l:I U}:Ck 0 s l []:=⟨by omega,by simp[cD]⟩
instance{n:Nat}{a:U}{l:I U}{r:I (I U)}[q:Ck n 1 l r]:Ck (n+1) 1 (a::l) ([a]::r):=⟨by have:=q.h;simp;omega,by have:=q.e;simp[cD,this]⟩
instance{n:Nat}{a b:U}{l:I U}{r:I (I U)}[q:Ck n 2 l r]:Ck (n+1) 2 (a::b::l) ([a,b]::r):=⟨by have:=q.h;simp;omega,by have:=q.e;simp[cD,this]⟩
instance{n:Nat}{a b c:U}{l:I U}{r:I (I U)}[q:Ck n 3 l r]:Ck (n+1) 3 (a::b::c::l) ([a,b,c]::r):=⟨by have:=q.h;simp;omega,by have:=q.e;simp[cD,this]⟩
instance(priority:=low){v11:Type}{c:v11->I U}{x:v11}{sz:Nat}[q:gG c sz]:Ck 1 sz (c x) [c x]:=⟨by have:=q.h x;omega,by have:=q.h x;simp[cD,<-this]⟩
class vG(K:Nat)(b:B)(sz:Nat)(u:U)(u':outParam U):Prop where
 h:fz K b sz u=u'
class LP(K:Nat)(b:B)(sz:Nat)(l:I U)(l':outParam (I U)):Prop where
 h:k7 K b sz l=l'
section
variable{K:Nat}{b:B}{sz:Nat}
instance(priority:=low){l:I U}[q:fB K l]:LP K b sz l l:=⟨tE b sz l q.h⟩
instance:LP K b sz [] []:=⟨wL K b sz⟩
instance{u u':U}{l l':I U}[a:vG K b sz u u'][q:LP K b sz l l']:LP K b sz (u::l) (u'::l'):=⟨by rw[uI,a.h,q.h]⟩
instance{k:IntKind}{z:Int}:vG K b sz (.int k z) (.int k z):=⟨D7 K b sz k z⟩
instance{x:Bool}:vG K b sz (.bool x) (.bool x):=⟨H5 K b sz x⟩
instance{x:I UInt8}:vG K b sz (.str x) (.str x):=⟨GW K b sz x⟩
instance:vG K b sz .nils .nils:=⟨ET K b sz⟩
instance{t:Bool}{l:I (I U)}:vG K b sz (.isl t l) (.isl t l):=⟨GX K b sz t l⟩
instance{l l':I U}[q:LP K b sz l l']:vG K b sz (.agg l) (.agg l'):=⟨by rw[EP,q.h]⟩
instance{l l':I U}[q:LP K b sz l l']:vG K b sz (.tup l) (.tup l'):=⟨by rw[GV,q.h]⟩
instance{f:Fn}{a a' c c':I U}[q:LP K b sz a a'][r:LP K b sz c c']:vG K b sz (.fn f a c) (.fn f a' c'):=⟨by rw[GR,q.h,r.h]⟩
instance{k st off n:Nat}[q:Nq k K]:vG K b sz (.vl k st off n) (.vl k st off n):=⟨Hw q.h b sz st off n⟩
instance{k off n c:Nat}[q:Nq k K]:vG K b sz (.sl k off n c) (.sl k off n c):=⟨yt q.h b sz off n c⟩
instance{k st off:Nat}[q:Nq k K]:vG K b sz (.ptr k st off) (.ptr k st off):=⟨yu q.h b sz st off⟩
end
instance{v11:Type}{c:v11->I U}{sz s K st:Nat}{l:I v11}{e:X}[q:gG c sz]:vG K (.vec (l.map c).flatten e sz st) s (.vl K st 0 l.length) (.isl false (l.map c)):=⟨Lt q.h l K s e st⟩
instance{K sz n:Nat}{l:I U}{e:X}{r:I (I U)}[q:Ck n sz l r]:vG K (.row l e) sz (.sl K 0 n n) (.isl false r):=⟨by rw[V3 K l e sz n q.h,q.e]⟩
instance{K sz:Nat}{l:I U}{e:X}:vG K (.row l e) sz (.ptr K 0 0) (.iptr l):=⟨Yi K l e sz⟩
instance{K sz:Nat}{b:B}{u u':U}[q:vG K b sz u u']:vG K b sz (oG [u]) u':=⟨q.h⟩
instance{K sz:Nat}{b:B}{u v u':U}{l:I U}[q:vG K b sz (.tup (u::v::l)) u']:vG K b sz (oG (u::v::l)) u':=⟨q.h⟩
class FzB(K:Nat)(b:B)(sz:Nat)(x:B)(x':outParam B):Prop where
 h:fzB K b sz x=x'
instance{K sz:Nat}{b:B}{l l':I U}{e:X}[q:LP K b sz l l']:FzB K b sz (.row l e) (.row l' e):=⟨by rw[fzB,q.h]⟩
instance{K sz:Nat}{b:B}{l l':I U}{e:X}{s st:Nat}[q:LP K b sz l l']:FzB K b sz (.vec l e s st) (.vec l' e s st):=⟨by rw[fzB,q.h]⟩
class W8(K:Nat)(b:B)(sz:Nat)(h:I (Nat×B))(h':outParam (I (Nat×B))):Prop where
 h:fzH K b sz h=h'
section
variable{K:Nat}{b:B}{sz:Nat}
instance:W8 K b sz [] []:=⟨rfl⟩
instance(priority:=low){k:Nat}{c c':B}{h h':I (Nat×B)}[n:Nq k K][p:FzB K b sz c c'][q:W8 K b sz h h']:W8 K b sz ((k,c)::h) ((k,c')::h'):=⟨by simp[fzH,n.h,zD,p.h,q.h]⟩
instance{c:B}{h h':I (Nat×B)}[q:W8 K b sz h h']:W8 K b sz ((K,c)::h) h':=⟨by simp[fzH,q.h]⟩
end
class tu(K:Nat)(b:B)(sz:Nat)(l:I (Nat×U))(l':outParam (I (Nat×U))):Prop where
 h:fzS K b sz l=l'
instance{K:Nat}{b:B}{sz:Nat}:tu K b sz [] []:=⟨rfl⟩
instance{K:Nat}{b:B}{sz i:Nat}{u u':U}{l l':I (Nat×U)}[a:vG K b sz u u'][q:tu K b sz l l']:tu K b sz ((i,u)::l) ((i,u')::l'):=⟨by rw[fzS,a.h,q.h]⟩
variable{n0:Nat}
variable{nx:Nat}
variable{h:I (Nat×B)}
variable{h':I (Nat×B)}
variable{b:B}
def mB{tm tm':I U}(K sz:Nat)[g:CP h K b][m:zh b][t:LP K b sz tm tm'][q:W8 K b sz h h']:Gh n0 tm ⟨h,nx⟩ tm' ⟨h',nx⟩:=Gh.fz K b sz g.h m.h t.h q.h
variable{n:Nat}
variable{l:I (Nat×U)}
variable{l':I (Nat×U)}
def HV(K sz:Nat)[g:CP h K b][m:zh b][t:tu K b sz l l'][q:W8 K b sz h h']:Gh n0 (fr n l) ⟨h,nx⟩ (fr n l') ⟨h',nx⟩:=Gh.fzS K b sz g.h m.h t.h q.h
class Fc(h:I (Nat×B))(K:Nat)(b:B)(h':outParam (I (Nat×B))):Prop where
 h:ug h K b=h'
instance{K:Nat}{x b:B}{t:I (Nat×B)}:Fc ((K,x)::t) K b ((K,b)::t):=⟨by simp[ug]⟩
instance(priority:=low){K k:Nat}{x b:B}{t t':I (Nat×B)}[n:Nq k K][g:Fc t K b t']:Fc ((k,x)::t) K b ((k,x)::t'):=⟨by simp[ug,n.h,zD,g.h]⟩
class W3(l:I U)(l':outParam (I U)):Prop where
 h:rQ l l'
instance:W3 [] []:=⟨.nil⟩
instance(priority:=low){u:U}{l l':I U}[q:W3 l l']:W3 (u::l) (u::l'):=⟨.cons (.refl _) q.h⟩
instance{l l':I U}[q:W3 l l']:W3 (.nils::l) (.isl false []::l'):=⟨.cons (.nil false) q.h⟩
def Gh.rowC{tm:I U}{q q':I U}{e:X}(K:Nat)[g:CP h K (.row q e)][w:W3 q q'][u:Fc h K (.row q' e) h'](hk:okL q'=true:=by exact rfl):Gh n0 tm ⟨h,nx⟩ tm ⟨h',nx⟩:=by have:=Gh.rowW (n0:=n0) (tm:=tm) (O:=⟨h,nx⟩) g.h hk w.h;simp only[u.h]at this;exact this
def NZ:0<=n:=Nat.zero_le n
def NL{a b:Nat}(h:Nat.ble a b=true:=by exact rfl):a<=b:=zY h
def sB{a b:Nat}(h:Nat.ble a b=true):a<=b:=zY h
variable{T:Tb}
variable{fn:Func}
variable{k:Code}
variable{O:Sg}
variable{R:U->Sg->Prop}
def bg0[t:TbP P T](n:Nat)(hf:T.fn f=some fn)(h:WPU (PG.of P) O.nx k (fr n []) O fun e tm' O'=>(e=.normal\/e=.ret)/\∃l,oZ T O' tm' fn.results.toList=some l/\∃u' c6,O.nx<=c6.nx/\Gh O.nx [oG l] O' [u'] c6/\R u' c6)(hn:fn.ntmps=n:=by exact rfl)(hb:fn.body=some k:=by exact rfl)(hk:Nat.ble 0 n=true:=by exact rfl):bE P f [] O R:=Fi t.ok hf hb (cJ (by rw[hn];exact NN (sB hk)) (zF _) h)
def kJ[t:TbP P T]{a:U}(n:Nat)(hf:T.fn f=some fn)(h:WPU (PG.of P) O.nx k (fr n [(0,a)]) O fun e tm' O'=>(e=.normal\/e=.ret)/\∃l,oZ T O' tm' fn.results.toList=some l/\∃u' c6,O.nx<=c6.nx/\Gh O.nx [oG l] O' [u'] c6/\R u' c6)(hn:fn.ntmps=n:=by exact rfl)(hb:fn.body=some k:=by exact rfl)(hk:Nat.ble 1 n=true:=by exact rfl):bE P f [a] O R:=Fi t.ok hf hb (cJ (by rw[hn];exact NN (sB hk)) (zF _) h)
def gP[t:TbP P T]{a b:U}(n:Nat)(hf:T.fn f=some fn)(h:WPU (PG.of P) O.nx k (fr n [(0,a),(1,b)]) O fun e tm' O'=>(e=.normal\/e=.ret)/\∃l,oZ T O' tm' fn.results.toList=some l/\∃u' c6,O.nx<=c6.nx/\Gh O.nx [oG l] O' [u'] c6/\R u' c6)(hn:fn.ntmps=n:=by exact rfl)(hb:fn.body=some k:=by exact rfl)(hk:Nat.ble 2 n=true:=by exact rfl):bE P f [a,b] O R:=Fi t.ok hf hb (cJ (by rw[hn];exact NN (sB hk)) (zF _) h)
variable{c:U}
def xV[t:TbP P T]{a b:U}(n:Nat)(hf:T.fn f=some fn)(h:WPU (PG.of P) O.nx k (fr n [(0,a),(1,b),(2,c)]) O fun e tm' O'=>(e=.normal\/e=.ret)/\∃l,oZ T O' tm' fn.results.toList=some l/\∃u' c6,O.nx<=c6.nx/\Gh O.nx [oG l] O' [u'] c6/\R u' c6)(hn:fn.ntmps=n:=by exact rfl)(hb:fn.body=some k:=by exact rfl)(hk:Nat.ble 3 n=true:=by exact rfl):bE P f [a,b,c] O R:=Fi t.ok hf hb (cJ (by rw[hn];exact NN (sB hk)) (zF _) h)
def bg4[t:TbP P T]{a b d:U}(n:Nat)(hf:T.fn f=some fn)(h:WPU (PG.of P) O.nx k (fr n [(0,a),(1,b),(2,c),(3,d)]) O fun e tm' O'=>(e=.normal\/e=.ret)/\∃l,oZ T O' tm' fn.results.toList=some l/\∃u' c6,O.nx<=c6.nx/\Gh O.nx [oG l] O' [u'] c6/\R u' c6)(hn:fn.ntmps=n:=by exact rfl)(hb:fn.body=some k:=by exact rfl)(hk:Nat.ble 4 n=true:=by exact rfl):bE P f [a,b,c,d] O R:=Fi t.ok hf hb (cJ (by rw[hn];exact NN (sB hk)) (zF _) h)
def bg5[t:TbP P T]{a b d e:U}(n:Nat)(hf:T.fn f=some fn)(h:WPU (PG.of P) O.nx k (fr n [(0,a),(1,b),(2,c),(3,d),(4,e)]) O fun e tm' O'=>(e=.normal\/e=.ret)/\∃l,oZ T O' tm' fn.results.toList=some l/\∃u' c6,O.nx<=c6.nx/\Gh O.nx [oG l] O' [u'] c6/\R u' c6)(hn:fn.ntmps=n:=by exact rfl)(hb:fn.body=some k:=by exact rfl)(hk:Nat.ble 5 n=true:=by exact rfl):bE P f [a,b,c,d,e] O R:=Fi t.ok hf hb (cJ (by rw[hn];exact NN (sB hk)) (zF _) h)
class NM(u u':U):Prop where
 h:Wk u u'
class ze(l l':I U):Prop where
 h:rQ l l'
instance(priority:=low){u:U}:NM u u:=⟨.refl u⟩
instance:NM .nils (.isl false []):=⟨.nil false⟩
instance{l l':I U}[q:ze l l']:NM (.agg l) (.agg l'):=⟨.agg q.h⟩
instance{l l':I U}[q:ze l l']:NM (.tup l) (.tup l'):=⟨.tup q.h⟩
instance{u u':U}[q:NM u u']:NM (oG [u]) u':=⟨q.h⟩
instance{u v u':U}{l:I U}[q:NM (.tup (u::v::l)) u']:NM (oG (u::v::l)) u':=⟨q.h⟩
instance:ze [] []:=⟨.nil⟩
instance{u u':U}{l l':I U}[a:NM u u'][q:ze l l']:ze (u::l) (u'::l'):=⟨.cons a.h q.h⟩
def lC{v08:Nat->I U->Sg->Prop}{m n1:Nat}(hI:v08 m (fr n l') ⟨h',n1⟩)(ht:HW l l':=by((repeat refine⟨rfl,?_⟩);exact trivial))(hs:Vx.cut n1 h=h':=by exact rfl)(h1:n0<=n1:=by first |exact Nat.zero_le _ |exact zY rfl)(h2:n1<=nx:=by exact zY rfl)[hb:BS n1 l'][hh:BH n1 h']:∃n' tm' O',n'<m+1/\v08 n' tm' O'/\n0<=O'.nx/\Gh n0 (fr n l) ⟨h,nx⟩ tm' O':=⟨m,_,_,zN _,hI,h1,Gh.toC ht hs h1 h2⟩
def xC{E:I U->Sg->Prop}{n1:Nat}(hE:E (fr n l') ⟨h',n1⟩)(ht:HW l l':=by((repeat refine⟨rfl,?_⟩);exact trivial))(hs:Vx.cut n1 h=h':=by exact rfl)(h1:n0<=n1:=by first |exact Nat.zero_le _ |exact zY rfl)(h2:n1<=nx:=by exact zY rfl)[hb:BS n1 l'][hh:BH n1 h']:∃tm' O',E tm' O'/\n0<=O'.nx/\Gh n0 (fr n l) ⟨h,nx⟩ tm' O':=⟨_,_,hE,h1,Gh.toC ht hs h1 h2⟩
section
variable{T:Tb}{n:Nat}{l:I (Nat×U)}{O:Sg}{rs:I ResultVar}
def rT{us:I U}(hr:oZ T O (fr n l) rs=some us)(hg:Gh 0 [oG us] O [u] ⟨[],0⟩)[q:BU 0 u]:(Exit.ret=.normal\/Exit.ret=.ret)/\∃l',oZ T O (fr n l) rs=some l'/\∃u' c6,(⟨[],0⟩:Sg).nx<=c6.nx/\Gh (⟨[],0⟩:Sg).nx [oG l'] O [u'] c6/\u'=u/\bC 0 u':=⟨.inr rfl,us,hr,u,⟨[],0⟩,zF _,hg,rfl,q.h⟩
def rt1{a:Tmp}{t:I ResultVar}{v:U}(ht:rs=.tmp a::t)(h:c7 n l (.tmp a)=some v)(h0:t=[])(hu:v=u)[q:BU 0 u]:(Exit.ret=.normal\/Exit.ret=.ret)/\∃l',oZ T O (fr n l) rs=some l'/\∃u' c6,(⟨[],0⟩:Sg).nx<=c6.nx/\Gh (⟨[],0⟩:Sg).nx [oG l'] O [u'] c6/\u'=u/\bC 0 u':=by subst ht;subst h0;subst hu;exact rT (dW h dN) (u9 _ rfl)
def y3{a b:Tmp}{t:I ResultVar}{v w:U}(ht:rs=.tmp a :: .tmp b::t)(h:c7 n l (.tmp a)=some v)(h':c7 n l (.tmp b)=some w)(h0:t=[])(hu : .tup [v,w]=u)[q:BU 0 u]:(Exit.ret=.normal\/Exit.ret=.ret)/\∃l',oZ T O (fr n l) rs=some l'/\∃u' c6,(⟨[],0⟩:Sg).nx<=c6.nx/\Gh (⟨[],0⟩:Sg).nx [oG l'] O [u'] c6/\u'=u/\bC 0 u':=by subst ht;subst h0;subst hu;exact rT (dW h (dW h' dN)) (u9 _ rfl)
end
def fR{u0:U}(K sz:Nat)[g:CP h K b][m:zh b][t:vG K b sz u0 u][q:W8 K b sz h h'][p:BU 0 u]:Gh 0 [u0] ⟨h,nx⟩ [u] ⟨[],0⟩:=Gh.trans (mB K sz) (u9 u rfl)
def wR{u0:U}[w:NM u0 u][p:BU 0 u]:Gh 0 [u0] O [u] ⟨[],0⟩:=Gh.trans (Gh.wk (.cons w.h .nil)) (u9 u rfl)
section
variable{C:PG}{n0 n:Nat}{Q:Exit->I U->Sg->Prop}{l:I (Nat×U)}{O:Sg}
def cF{β:Type}{c:Operand}{p q:Code}{t:Bool}{a b r:V β}(J:cond t a b=r)(h1:t=true->a=r->WPU C n0 p (fr n l) O Q)(h2:t=false->b=r->WPU C n0 q (fr n l) O Q)(hc:c7 n l c=some (.bool t):=by exact rfl):WPU C n0 (.cond c p q) (fr n l) O Q:=AD hc (fun h=>h1 h (Ef h J)) (fun h=>h2 h (Eg h J))
end
class LN(op:BinOp)(k:IntKind)(a:Int)(k':IntKind)(b:Int)(r:outParam M):Prop where
 h:kR op k a k' b=some r
section
variable{k:IntKind}{a b:Int}
instance:LN .add k a k b (.int k (k.wrap (a+b))):=⟨Be k a b⟩
instance:LN .sub k a k b (.int k (k.wrap (a-b))):=⟨za5 k a b⟩
instance:LN .mul k a k b (.int k (k.wrap (a*b))):=⟨Az k a b⟩
instance:LN .eql k a k b (.bool (a==b)):=⟨Z' k a b⟩
instance:LN .neq k a k b (.bool (a != b)):=⟨Ay k a b⟩
instance:LN .lss k a k b (.bool (decide (a<b))):=⟨Ba k a b⟩
instance:LN .leq k a k b (.bool (decide (a<=b))):=⟨Bb k a b⟩
instance:LN .gtr k a k b (.bool (decide (a>b))):=⟨Bc k a b⟩
instance:LN .geq k a k b (.bool (decide (a>=b))):=⟨Bd k a b⟩
end
class fJ(T:Tb)(t:X)(d:outParam TypeDesc):Prop where
 h:T.und t=some d
class SzC(T:Tb)(t:X)(n:outParam Nat):Prop where
 h:cO T t=some n
section
variable{P:Program}{T:Tb}{a9 r:I Oper}{o:Oper}{n:Nat}{l:I (Nat×U)}{O O':Sg}{u:U}
variable{d:Tmp}
def wT{j:Nat}{b:Bool}(hg:o.guard=some (j,true))(hj:BP a9 j=some d)(hl:c7 n l (.tmp d)=some (.bool b))(hb:b=true):cM a9 (fr n l) o=some true:=BL hg hj hl hb
def wF{j:Nat}{b:Bool}(hg:o.guard=some (j,false))(hj:BP a9 j=some d)(hl:c7 n l (.tmp d)=some (.bool b))(hb:b=false):cM a9 (fr n l) o=some true:=BL hg hj hl hb
def wA{A:Prop}(h:A:=by first |exact rfl |exact Go.Vx.wT rfl rfl rfl (by first |with_reducible_and_instances assumption |exact rfl)|exact Go.Vx.wF rfl rfl rfl (by first |with_reducible_and_instances assumption |exact rfl)):A:=h
variable{C:PG}
variable{K:I U->Sg->Prop}
def RS.w(he:o.dst=some d)(h:bM T O (fr n l) o.op=some (u,O'))(hk:RU C T a9 r (fr n ((d,u)::l)) O' K)(hw:cM a9 (fr n l) o=some true:=by exact Go.Vx.wA)(hd:Nat.blt d n=true:=by exact rfl):RU C T a9 (o::r) (fr n l) O K:=RS.op hw h he hd hk
def RD.w{b7:I RK}{K:I RK->I U->Sg->Prop}(he:o.dst=some d)(h:bM T O (fr n l) o.op=some (u,O))(hk:RH P T a9 r (fr n ((d,u)::l)) O ((1,⟨fr n l,o,u,false,false,O,O⟩)::b7) K)(hw:cM a9 (fr n l) o=some true:=by exact Go.Vx.wA)(hd:Nat.blt d n=true:=by exact rfl):RH P T a9 (o::r) (fr n l) O b7 K:=RD.look hw h he hd hk
def Lv(n:Nat)(l:I (Nat×U))(o:Oper):V (Tmp×FuncId×I U):=match o.dst,o.op with
 |some d,.call c=>match c.callee with
  |.value f=>match c7 n l f with
   |some (.fn (.func g) [] [])=>match LU n l c.args.toList with
    |some a7=>some (d,g,a7)|none=>none
   |_=>none
  |_=>none
 |_,_=>none
def Hh{g:FuncId}{a7:I U}(h:Lv n l o=some (d,g,a7))(hg:T.fn g=some fn)(hb:fn.body.isSome=true):o.dst=some d/\kH T (fr n l) o.op=some (g,a7):=by
 unfold Lv at h;split at h
 ·next d' c h1 h2=>
  split at h
  ·next f h3=>
   split at h
   ·next g' h4=>
    split at h
    ·next as' h5=>simp[zA,zB]at h;have⟨rfl,rfl,rfl⟩:=h;exact⟨h1,by rw[h2];exact gM h3 h4 hg hb h5 (by simp)⟩
    cases h
   cases h
  cases h
 cases h
def aR(h:Lv n l o=some (d,f,args))(kI:bE C.prog f args O (fun u' O'=>u'=u/\O'=O))(hg:T.fn f=some fn)(hk:RU C T a9 r (fr n ((d,u)::l)) O K)(hb:fn.body.isSome=true:=by exact rfl)(hw:cM a9 (fr n l) o=some true:=by exact Go.Vx.wA)(hd:Nat.blt d n=true:=by exact rfl):RU C T a9 (o::r) (fr n l) O K:=RS.call hw (Hh h hg hb).2 kI (Hh h hg hb).1 hd hk
def G7{args':I U}{O1:Sg}(h:Lv n l o=some (d,f,args))(hG:Gh O.nx args O args' O1)(kI:bE C.prog f args' O1 (fun u' O'=>u'=u/\O'=O1))(hg:T.fn f=some fn)(hk:RU C T a9 r (fr n ((d,u)::l)) O1 K)(hn:O.nx<=O1.nx:=by exact zY rfl)(hb:fn.body.isSome=true:=by exact rfl)(hw:cM a9 (fr n l) o=some true:=by exact Go.Vx.wA)(hd:Nat.blt d n=true:=by exact rfl):RU C T a9 (o::r) (fr n l) O K:=RS.fcall hw (Hh h hg hb).2 hG hn kI (Hh h hg hb).1 hd hk
def eM{b7:I RK}{K:I RK->I U->Sg->Prop}(h:Lv n l o=some (d,f,args))(kI:∀s,bE P f args s (fun u' O'=>u'=u/\O'=s))(hg:T.fn f=some fn)(hk:RH P T a9 r (fr n ((d,u)::l)) O ((0,⟨fr n l,o,u,false,false,O,O⟩)::b7) K)(hb:fn.body.isSome=true:=by exact rfl)(hw:cM a9 (fr n l) o=some true:=by exact Go.Vx.wA)(hd:Nat.blt d n=true:=by exact rfl):RH P T a9 (o::r) (fr n l) O b7 K:=RD.free hw (Hh h hg hb).2 kI (Hh h hg hb).1 hd hk
end
def vw{args':I U}{v:M}{O1:Sg}(h:bE P f args ⟨[],0⟩ (fun u' _=>u'=u/\bC 0 u'))(hg:Gh 0 args' O args O1)[ha:fB 0 args](hu:toV u=some v:=by simp only[toV,eY,okL,okC,zC]<;>rfl)(C8:∀m,aI m v=v:=by exact fun m=>by simp[aI,aJ]):bE P f args' O (fun u' O'=>u'=u/\O'=O):=bE.view h ha.h hu C8 hg
structure Hd(B:Prop):Prop where
 h:B
section
variable{C:PG}{n0:Nat}{tm:I U}{O:Sg}{Q:Exit->I U->Sg->Prop}
def rg0[t:th C T]{i:Nat}{a9:Array Oper}{L:I Oper}(h:RU C T L L tm O (fun tm' O'=>Q .normal tm' O'))(hl:a9.toList=L):WPU C n0 (.region i a9 false) tm O Q:=WPU.region t.ok (by rw[hl];exact h)
def rg1[t:th C T]{i:Nat}{a9:Array Oper}{o:Oper}{r:I Oper}(hl:a9.toList=o::r)(h:RU C T (o::r) (o::r) tm O (fun tm' O'=>Q .normal tm' O')):WPU C n0 (.region i a9 false) tm O Q:=rg0 h hl
end
section
variable{C:PG}{T:Tb}{a9 r:I Oper}{o:Oper}{n:Nat}{l:I (Nat×U)}{O O':Sg}{u:U}{K:I U->Sg->Prop}{d:Tmp}
def RS.nt{j:Nat}{b:Bool}{d':Tmp}(hg:o.guard=some (j,true))(hj:BP a9 j=some d')(hl:c7 n l (.tmp d')=some (.bool b))(hb:b=false)(he:o.dst=some d)(hd:Nat.blt d n=true)(hk:RU C T a9 r (fr n ((d,.tup [])::l)) O K):RU C T a9 (o::r) (fr n l) O K:=RS.no (zp hg hj hl hb) he hd hk
def RS.nf{j:Nat}{b:Bool}{d':Tmp}(hg:o.guard=some (j,false))(hj:BP a9 j=some d')(hl:c7 n l (.tmp d')=some (.bool b))(hb:b=true)(he:o.dst=some d)(hd:Nat.blt d n=true)(hk:RU C T a9 r (fr n ((d,.tup [])::l)) O K):RU C T a9 (o::r) (fr n l) O K:=RS.no (zp hg hj hl hb) he hd hk
variable{x:Operand}
def RS.mo(ho:o.op=.move x)(hx:c7 n l x=some u)(he:o.dst=some d)(hw:cM a9 (fr n l) o=some true)(hd:Nat.blt d n=true)(hk:RU C T a9 r (fr n ((d,u)::l)) O K):RU C T a9 (o::r) (fr n l) O K:=RS.w he (by rw[ho];exact iQ hx) hk hw hd
def RS.in{op:BinOp}{t t':X}{y:Operand}{k k':IntKind}{a b:Int}{v:M}(ho:o.op=.binOp op t x y t')(hx:c7 n l x=some (.int k a))(hy:c7 n l y=some (.int k' b))[h:LN op k a k' b v](hr:iN v=some u)(he:o.dst=some d)(hw:cM a9 (fr n l) o=some true)(hd:Nat.blt d n=true)(hk:RU C T a9 r (fr n ((d,u)::l)) O K):RU C T a9 (o::r) (fr n l) O K:=RS.w he (by rw[ho];exact tC hx hy h.h hr) hk hw hd
def RS.p1{c a b:Operand}{t:Bool}(ho:o.op=.pick c a b)(hc:c7 n l c=some (.bool t))(ht:t=true)(h:c7 n l a=some u)(he:o.dst=some d)(hw:cM a9 (fr n l) o=some true)(hd:Nat.blt d n=true)(hk:RU C T a9 r (fr n ((d,u)::l)) O K):RU C T a9 (o::r) (fr n l) O K:=RS.w he (by rw[ho];exact nk hc ht h) hk hw hd
def RS.p0{c a b:Operand}{t:Bool}(ho:o.op=.pick c a b)(hc:c7 n l c=some (.bool t))(ht:t=false)(h:c7 n l b=some u)(he:o.dst=some d)(hw:cM a9 (fr n l) o=some true)(hd:Nat.blt d n=true)(hk:RU C T a9 r (fr n ((d,u)::l)) O K):RU C T a9 (o::r) (fr n l) O K:=RS.w he (by rw[ho];exact nl hc ht h) hk hw hd
def RS.ex{i:Nat}{q:I U}(ho:o.op=.extract x i)(hx:c7 n l x=some (.tup q))(h:nth q i=some u)(he:o.dst=some d)(hw:cM a9 (fr n l) o=some true)(hd:Nat.blt d n=true)(hk:RU C T a9 r (fr n ((d,u)::l)) O K):RU C T a9 (o::r) (fr n l) O K:=RS.w he (by rw[ho];exact zag hx h) hk hw hd
def RS.un{op:UnOp}{t:X}{v:U}{v1 v2:M}(ho:o.op=.unOp op t x)(hx:c7 n l x=some v)(h:toV v=some v1)(hu:RP op v1=some v2)(hq:iN v2=some u)(he:o.dst=some d)(hw:cM a9 (fr n l) o=some true)(hd:Nat.blt d n=true)(hk:RU C T a9 r (fr n ((d,u)::l)) O K):RU C T a9 (o::r) (fr n l) O K:=RS.w he (by rw[ho];exact TU hx h hu hq) hk hw hd
def RS.a(ho:o.op=.assign x)(hx:c7 n l x=some u)(he:o.dst=some d)(hw:cM a9 (fr n l) o=some true)(hd:Nat.blt d n=true)(hk:RU C T a9 r (fr n ((d,u)::l)) O K):RU C T a9 (o::r) (fr n l) O K:=RS.as hw ho hx he hk hd
end
class jV(T:Tb)(t:X)(a b:outParam Nat)(z:outParam M):Prop where
 h:T.inf t=some (a,b,z)
instance{T:Tb}{t:X}{a b:Nat}{z:M}[q:jV T t a b z]:SzC T t a:=⟨aW q.h⟩
class qE(T:Tb)(t:X)(zu:outParam (I U)):Prop where
 h:∃a b z,T.inf t=some (a,b,z)/\qH z.cells.toList=some zu/\okL zu=true
class E3(u:U)(cs:outParam (I U)):Prop where
 h:xL u=some cs
instance{l:I U}:E3 (.agg l) l:=⟨rfl⟩
instance{k:IntKind}{z:Int}:E3 (.int k z) [.int k z]:=⟨rfl⟩
instance{b:Bool}:E3 (.bool b) [.bool b]:=⟨rfl⟩
instance{s:I UInt8}:E3 (.str s) [.str s]:=⟨rfl⟩
instance{t:Bool}{l:I (I U)}:E3 (.isl t l) [.isl t l]:=⟨rfl⟩
instance{k st off:Nat}:E3 (.ptr k st off) [.ptr k st off]:=⟨rfl⟩
instance{k st off n:Nat}:E3 (.vl k st off n) [.vl k st off n]:=⟨rfl⟩
instance{k off n c:Nat}:E3 (.sl k off n c) [.sl k off n c]:=⟨rfl⟩
instance{k:Nat}:E3 (.map k) [.map k]:=⟨rfl⟩
instance{f:Fn}{a c:I U}:E3 (.fn f a c) [.fn f a c]:=⟨rfl⟩
class NR(q:I U)(off n:Nat)(cs:outParam (I U)):Prop where
 h:lB q off n=some cs
instance{q:I U}:NR q 0 0 []:=⟨by simp[lB]⟩
instance{a:U}{q cs:I U}{n:Nat}[s:NR q 0 n cs]:NR (a::q) 0 (n+1) (a::cs):=⟨by
 have:=s.h;unfold lB at*;split at this
 ·next h=>cases this;rw[if_pos (by simp at*;omega)];simp
 cases this⟩
instance(priority:=low){v11:Type}{c:v11->I U}{x:v11}{sz:Nat}[q:gG c sz]:NR (c x) 0 sz (c x):=⟨by
 unfold lB;rw[if_pos (by rw[q.h];omega),List.drop_zero,zW (by rw[q.h];exact zF _)]⟩
class Fg(q:I U)(n:Nat):Prop where
 h:q.length=n
instance:Fg [] 0:=⟨rfl⟩
instance{a:U}{q:I U}{n:Nat}[s:Fg q n]:Fg (a::q) (n+1):=⟨by simp[s.h]⟩
instance(priority:=low){v11:Type}{c:v11->I U}{x:v11}{sz:Nat}[q:gG c sz]:Fg (c x) sz:=⟨q.h x⟩
class LM(q:I U)(off:Nat)(cs:I U)(q':outParam (I U)):Prop where
 h:qG q off cs=some q'
instance{q:I U}:LM q 0 [] q:=⟨by simp[qG]⟩
instance{a b:U}{q cs q':I U}[s:LM q 0 cs q']:LM (a::q) 0 (b::cs) (b::q'):=⟨by
 have:=s.h;unfold qG at*;split at this
 ·next h=>cases this;rw[if_pos (by simp at*;omega)];simp
 cases this⟩
instance{a:U}{q cs q':I U}{o:Nat}[s:LM q o cs q']:LM (a::q) (o+1) cs (a::q'):=⟨by
 have:=s.h;unfold qG at*;split at this
 ·next h=>cases this;rw[if_pos (by simp at*;omega)];simp[show o+1+cs.length=(o+cs.length)+1 by omega]
 cases this⟩
instance(priority:=low){v11:Type}{c:v11->I U}{x:v11}{sz:Nat}{q:I U}[s:gG c sz][t:Fg q sz]:LM q 0 (c x) (c x):=⟨by
 unfold qG;have h1:=s.h x;have h2:=t.h;rw[if_pos (by omega),List.drop_eq_nil_of_le (by omega)];simp⟩
class tz(a b:I U)(c:outParam (I U)):Prop where
 h:a++b=c
instance{b:I U}:tz [] b b:=⟨rfl⟩
instance{x:U}{a b c:I U}[s:tz a b c]:tz (x::a) b (x::c):=⟨by rw[List.cons_append,s.h]⟩
class ti(pl:I (Nat×Nat))(i:Nat)(o s:outParam Nat):Prop where
 h:nth pl i=some (o,s)
instance{o s:Nat}{pl:I (Nat×Nat)}:ti ((o,s)::pl) 0 o s:=⟨rfl⟩
instance{a:Nat×Nat}{i o s:Nat}{pl:I (Nat×Nat)}[q:ti pl i o s]:ti (a::pl) (i+1) o s:=⟨q.h⟩
variable{zu:I U}
variable{q':I U}
variable{cs:I U}
variable{s:Nat}
variable{qs:I (Nat×U)}
def z9u{place:Nat->V (Nat×Nat)}{c0:I U}{i o:Nat}{v:U}(hp:place i=some (o,s))(hc:xL v=some c0)(hl:c0.length=s)(hq:qG zu o c0=some q')(hr:uY place q' qs=some cs):uY place zu ((i,v)::qs)=some cs:=by
 have:Nat.beq c0.length s=true:=by simp[beq_eq,hl]
 simp[uY,hp,hc,this,zC,hq,hr]
class tx(pl:I (Nat×Nat))(zu:I U)(qs:I (Nat×U))(cs:outParam (I U)):Prop where
 h:uY (nth pl) zu qs=some cs
instance{pl:I (Nat×Nat)}{zu:I U}:tx pl zu [] zu:=⟨rfl⟩
instance{pl:I (Nat×Nat)}{zu q' cs c0:I U}{i o s:Nat}{v:U}{qs:I (Nat×U)}[p:ti pl i o s][c:E3 v c0][l:Fg c0 s][q:LM zu o c0 q'][r:tx pl q' qs cs]:tx pl zu ((i,v)::qs) cs:=⟨z9u p.h c.h l.h q.h r.h⟩
class tp(a b:Nat)(c:outParam Nat):Prop where
 h:a*b=c
instance{b:Nat}:tp 0 b 0:=⟨Nat.zero_mul b⟩
instance{b:Nat}:tp 1 b b:=⟨Nat.one_mul b⟩
instance{a:Nat}:tp (a+2) 1 (a+2):=⟨Nat.mul_one _⟩
class tw(s:Nat)(zu:I U)(qs:I (Nat×U))(cs:outParam (I U)):Prop where
 h:uY (fun i=>some (i*s,s)) zu qs=some cs
instance{s:Nat}{zu:I U}:tw s zu [] zu:=⟨rfl⟩
instance{zu q' cs c0:I U}{i o s:Nat}{v:U}{qs:I (Nat×U)}[m:tp i s o][c:E3 v c0][l:Fg c0 s][q:LM zu o c0 q'][r:tw s q' qs cs]:tw s zu ((i,v)::qs) cs:=⟨z9u (by rw[m.h]) c.h l.h q.h r.h⟩
class tg(z:I U)(k:Nat)(zs:outParam (I U)):Prop where
 h:vN z k=zs
instance{z:I U}:tg z 0 []:=⟨rfl⟩
instance{z a b:I U}{k:Nat}[q:tg z k a][p:tz z a b]:tg z (k+1) b:=⟨by
 have:=q.h;have:=p.h;simp[vN,List.replicate_succ,List.flatten_cons]at*;simp_all⟩
class DeC{v11:Type}(c:v11->I U)(cs:I U)(x:outParam v11):Prop where
 h:c x=cs
instance{k:IntKind}{z:Int}:DeC (cI k) [.int k z] z:=⟨rfl⟩
instance{s:I UInt8}:DeC cS [.str s] s:=⟨rfl⟩
instance{v11:Type}{c:v11->I U}{l:I v11}:DeC (cL c) [.isl false (l.map c)] l:=⟨rfl⟩
instance(priority:=low){v11:Type}{c:v11->I U}{x:v11}:DeC c (c x) x:=⟨rfl⟩
instance(priority:=low){v11:Type}{c:v11->I U}{x:v11}:W3 (c x) (c x):=⟨rQ.refl _⟩
class xW(T:Tb)(t:X)(zu:outParam (I U))(pl:outParam (I (Nat×Nat))):Prop where
 h:BdT T t zu pl
class SuC(a:Nat)(b:outParam Nat):Prop where
 h:a+1=b
instance:SuC 0 1:=⟨rfl⟩
instance:SuC 1 2:=⟨rfl⟩
instance:SuC 2 3:=⟨rfl⟩
instance:SuC 3 4:=⟨rfl⟩
instance:SuC 4 5:=⟨rfl⟩
instance:SuC 5 6:=⟨rfl⟩
instance:SuC 6 7:=⟨rfl⟩
instance:SuC 7 8:=⟨rfl⟩
instance:SuC 8 9:=⟨rfl⟩
instance:SuC 9 10:=⟨rfl⟩
instance:SuC 10 11:=⟨rfl⟩
instance:SuC 11 12:=⟨rfl⟩
instance:SuC 12 13:=⟨rfl⟩
instance:SuC 13 14:=⟨rfl⟩
class AdC(a b:Nat)(c:outParam Nat):Prop where
 h:a+b=c
instance(priority:=low){a b:Nat}:AdC a b (a+b):=⟨rfl⟩
instance{b:Nat}:AdC 0 b b:=⟨Nat.zero_add b⟩
class tj(a:Nat)(b:outParam Nat):Prop where
 h:a+1=b
instance{a b:Nat}[q:SuC a b]:tj a b:=⟨q.h⟩
instance(priority:=low){a:Nat}:tj a (a+1):=⟨rfl⟩
section
variable{T:Tb}{n:Nat}{l:I (Nat×U)}{h h':I (Nat×B)}{nx nx':Nat}{u v w:U}{op:Op}
variable{e:X}
def oAl(ho:op=.alloc e)[z:qE T e zu][hn:SuC nx nx']:bM T ⟨h,nx⟩ (fr n l) op=some (.ptr nx 0 0,⟨(nx,.row zu e)::h,nx'⟩):=by subst ho;have yU:=hn.h;subst yU;have⟨a,b,q,h1,h2,h3⟩:=z.h;exact qzi h1 h2 h3
variable{x:Operand}
def oBx(ho:op=.box e x)(hx:c7 n l x=some v)[c:E3 v cs](hk:okL cs=true)[hn:SuC nx nx']:bM T ⟨h,nx⟩ (fr n l) op=some (.ptr nx 0 0,⟨(nx,.row cs e)::h,nx'⟩):=by subst ho;have yU:=hn.h;subst yU;exact Ak hx c.h hk
variable{t:X}
variable{a:Operand}
variable{k:Nat}
variable{off:Nat}
variable{sz:Nat}
variable{q:I U}
def oSt(ho:op=.store t a x)(ha:c7 n l a=some (.ptr k 0 off))(hx:c7 n l x=some v)[g:CP h k (.row q e)][s:SzC T t sz][c:E3 v cs][p:LM q off cs q'][w:Fc h k (.row q' e) h'](hl:Nat.beq cs.length sz=true)(hk:okL cs=true):bM T ⟨h,nx⟩ (fr n l) op=some (.junk,⟨h',nx⟩):=by subst ho;refine qzk s.h ha hx c.h hl hk (q:=q) (q':=q') ?_ ?_ ?_;simp only[cellsOf,g.h];rfl;simp[GL,g.h];exact p.h;simp[M8,g.h,w.h]
variable{d:TypeDesc}
def oLa(ho:op=.load t x)(hx:c7 n l x=some (.ptr k 0 off))[hd:fJ T t d](ha:sE d=true)[g:CP h k (.row q e)][s:SzC T t sz][p:NR q off sz cs]:bM T ⟨h,nx⟩ (fr n l) op=some (.agg cs,⟨h,nx⟩):=by subst ho;exact j4 hd.h ha s.h hx (by simp only[cellsOf,g.h];rfl) p.h
def oLo(ho:op=.load t x)(hx:c7 n l x=some (.ptr k 0 off))[hd:fJ T t d](ha:sE d=false)[g:CP h k (.row q e)](hu:nth q off=some u):bM T ⟨h,nx⟩ (fr n l) op=some (u,⟨h,nx⟩):=by subst ho;exact mW hd.h ha hx (by simp only[cellsOf,g.h];rfl) hu
def oIa(ho:op=.load t x)(hx:c7 n l x=some (.iptr q))[hd:fJ T t d](ha:sE d=true)[s:SzC T t sz][p:NR q 0 sz cs]:bM T ⟨h,nx⟩ (fr n l) op=some (.agg cs,⟨h,nx⟩):=by subst ho;exact za8 hd.h ha s.h hx p.h
def oIo(ho:op=.load t x)(hx:c7 n l x=some (.iptr q))[hd:fJ T t d](ha:sE d=false)(hu:nth q 0=some u):bM T ⟨h,nx⟩ (fr n l) op=some (u,⟨h,nx⟩):=by subst ho;exact Oi hd.h ha hx hu
def oFa{f:Nat}{fs:Array Field}{fd:Field}{iL:Nat}(ho:op=.fieldAddr t x f)(hx:c7 n l x=some (.ptr k 0 off))[hd:fJ T t (.struct fs)][g:CP h k (.row q e)](hf:nth fs.toList f=some fd)(hs:cO T fd.type=some (s+1))(h2:off+fd.offset=iL):bM T ⟨h,nx⟩ (fr n l) op=some (.ptr k 0 iL,⟨h,nx⟩):=by subst ho;exact kC hd.h hf hs hx (by simp[bW,g.h];rfl) h2
def oFi{f:Nat}{fs:Array Field}{fd:Field}(ho:op=.fieldAddr t x f)(hx:c7 n l x=some (.iptr q))[hd:fJ T t (.struct fs)](hf:nth fs.toList f=some fd)(hs:cO T fd.type=some (s+1))(hq:q.drop fd.offset=q'):bM T ⟨h,nx⟩ (fr n l) op=some (.iptr q',⟨h,nx⟩):=by subst ho;exact B' hd.h hf hs hx hq
variable{v11:Type}
variable{c:v11->I U}
variable{b:Bool}
variable{xs:I v11}
def oIx{i:Operand}{k:IntKind}{z:Int}{y:v11}(ho:op=.indexAddr t x i)(hx:c7 n l x=some (.isl b (xs.map c)))(hi:c7 n l i=some (.int k z))[hd:fJ T t (.slice e)][hs:SzC T e sz][hc:gG c sz](hy:aB xs z=some y):bM T ⟨h,nx⟩ (fr n l) op=some (.iptr (c y),⟨h,nx⟩):=by subst ho;exact dC hx hi (Ge c hd.h hs.h hc.h hy rfl)
variable{args:Array Operand}
variable{ts:Array X}
def oLe{q:I X}(ho:op=.call { callee:=.builtin .len,args:=args,argTypes:=ts })(ha:args.toList=[x])(ht:ts.toList=t::q)(hx:c7 n l x=some (.isl b (xs.map c)))[hd:fJ T t (.slice e)]:bM T ⟨h,nx⟩ (fr n l) op=some (.int .i64 xs.length,⟨h,nx⟩):=by subst ho;exact OD ha ht hx (zbu c hd.h)
def oLv{e':X}{q:I X}{K st m:Nat}(ho:op=.call { callee:=.builtin .len,args:=args,argTypes:=ts })(ha:args.toList=[x])(ht:ts.toList=t::q)(hx:c7 n l x=some (.vl K st 0 m))[hd:fJ T t (.slice e)][g:CP h K (.vec cs e' sz st)]:bM T ⟨h,nx⟩ (fr n l) op=some (.int .i64 m,⟨h,nx⟩):=by subst ho;exact OD ha ht hx (za7 hd.h g.h)
def oBd{pl:I (Nat×Nat)}{ps:Array (Nat×Operand)}(ho:op=.build t ps)[q:xW T t zu pl](he:I2 n l ps.toList=some qs)(c:tx pl zu qs cs)(hk:okL cs=true):bM T ⟨h,nx⟩ (fr n l) op=some (.agg cs,⟨h,nx⟩):=by subst ho;exact wx q.h he c.h hk
variable{z:M}
def oBs{b:Nat}{zs:I U}{ps:Array (Nat×Operand)}(ho:op=.buildSlice t k ps)(he:I2 n l ps.toList=some qs)[hd:fJ T t (.slice e)][hi:jV T e sz b z][hz:qE T e zu](zc:tg zu k zs)(c:tw sz zs qs cs)(hk:okL cs=true)(h1:Nat.ble (k*sz) 16777216=true)(h2:Nat.ble k 16777216=true)(h3:Nat.beq z.cells.toList.length sz=true)(hn:SuC nx nx'):bM T ⟨h,nx⟩ (fr n l) op=some (.sl nx 0 k k,⟨(nx,.row cs e)::h,nx'⟩):=by subst ho;have yU:=hn.h;subst yU;have⟨a,b',q,g1,g2,g3⟩:=hz.h;have e1:=hi.h;rw[g1]at e1;cases e1;exact uG hd.h hi.h he h1 h2 h3 g2 (by rw[zc.h];exact c.h) hk
variable{O:Sg}
def oMv(ho:op=.move x)(hx:c7 n l x=some u):bM T O (fr n l) op=some (u,O):=by subst ho;exact iQ hx
def oAs(ho:op=.assign x)(hx:c7 n l x=some u):bM T O (fr n l) op=some (u,O):=by subst ho;exact rk hx
variable{y:Operand}
def oIn{b:BinOp}{t':X}{k k':IntKind}{i j:Int}{r:M}(ho:op=.binOp b t x y t')(hx:c7 n l x=some (.int k i))(hy:c7 n l y=some (.int k' j))[q:LN b k i k' j r](hr:iN r=some u):bM T O (fr n l) op=some (u,O):=by subst ho;exact tC hx hy q.h hr
def oP1{c b:Operand}{t:Bool}(ho:op=.pick c a b)(hc:c7 n l c=some (.bool t))(ht:t=true)(hu:c7 n l a=some u):bM T O (fr n l) op=some (u,O):=by subst ho;exact nk hc ht hu
def oP0{c b:Operand}{t:Bool}(ho:op=.pick c a b)(hc:c7 n l c=some (.bool t))(ht:t=false)(hu:c7 n l b=some u):bM T O (fr n l) op=some (u,O):=by subst ho;exact nl hc ht hu
def oEx{i:Nat}(ho:op=.extract x i)(hx:c7 n l x=some (.tup q))(hu:nth q i=some u):bM T O (fr n l) op=some (u,O):=by subst ho;exact zag hx hu
def oUn{b:UnOp}{v1 v2:M}(ho:op=.unOp b t x)(hx:c7 n l x=some v)(h1:toV v=some v1)(h2:RP b v1=some v2)(hq:iN v2=some u):bM T O (fr n l) op=some (u,O):=by subst ho;exact TU hx h1 h2 hq
def oAp{xt e1 e2:X}{a st cT K s0 s1 by_:Nat}{yv:v11}{cs':I U}(ho:op=.call { callee:=.builtin .append,args:=args,argTypes:=ts })(ha:args.toList=[x,y])(ht:ts.toList=[t,xt])(hx:c7 n l x=some (.vl a st 0 xs.length))(hy:c7 n l y=some (.sl K 0 1 1))[d1:fJ T t (.slice e)][d2:fJ T xt (.slice e2)][g:CP h a (.vec (xs.map c).flatten e s0 st)][i:jV T e s1 by_ z][g2:CP h K (.row q e1)][s:NR q 0 s1 cs][w:W3 cs cs'][d:DeC c cs' yv][lc:gG c s1][o?:tj st cT][ug:Fc h a (.vec (List.map c (xs++[yv])).flatten e s1 cT) h'](UJ:s0=s1)(hp:Nat.ble 1 s1=true)(hc:rZ cs=(List.map c [yv]).flatten)(hz:Nat.beq z.cells.toList.length s1=true)(hr:(xs.length+1)*by_<=140737488355328/\xs.length+1<=140737488355328):bM T ⟨h,nx⟩ (fr n l) op=some (.vl a cT 0 (xs++[yv]).length,⟨h',nx⟩):=by subst ho;subst UJ;obtain⟨sz,rfl⟩:∃sz,s0=sz+1:=⟨s0-1,by have:=zY hp;omega⟩;have e1:=o?.h;subst e1;have:=uZ (O:=⟨h,nx⟩) ha ht hx hy (SL c [yv] d1.h d2.h i.h hz lc.h g.h (Oz c [yv] (q:=q) (by simp[rowOf,g2.h]) (by rw[Nat.one_mul];exact s.h) rfl hc) hr);rw[ug.h]at this;exact this
def oAq{xt e2:X}{a st cT s0 s1 by_:Nat}{ys:I v11}(ho:op=.call { callee:=.builtin .append,args:=args,argTypes:=ts })(ha:args.toList=[x,y])(ht:ts.toList=[t,xt])(hx:c7 n l x=some (.vl a st 0 xs.length))(hy:c7 n l y=some (.isl b (ys.map c)))[d1:fJ T t (.slice e)][d2:fJ T xt (.slice e2)][g:CP h a (.vec (xs.map c).flatten e s0 st)][i:jV T e s1 by_ z][lc:gG c s1][o?:tj st cT][ug:Fc h a (.vec (List.map c (xs++ys)).flatten e s1 cT) h'](UJ:s0=s1)(hp:Nat.ble 1 s1=true)(hz:Nat.beq z.cells.toList.length s1=true)(hr:(xs.length+ys.length)*by_<=140737488355328/\xs.length+ys.length<=140737488355328):bM T ⟨h,nx⟩ (fr n l) op=some (.vl a cT 0 (xs++ys).length,⟨h',nx⟩):=by subst ho;subst UJ;obtain⟨sz,rfl⟩:∃sz,s0=sz+1:=⟨s0-1,by have:=zY hp;omega⟩;have e1:=o?.h;subst e1;have:=uZ (O:=⟨h,nx⟩) ha ht hx hy (SL c ys d1.h d2.h i.h hz lc.h g.h (H2 c lc.h) hr);rw[ug.h]at this;exact this
end
variable{A:Prop}
def opx (h:A:=by first
 |exact Go.Vx.oIo rfl rfl rfl rfl
 |exact Go.Vx.oLo rfl rfl rfl rfl
 |exact Go.Vx.oFi rfl rfl (by exact rfl) (by exact Go.Vx.SzC.h) (by exact rfl)
 |exact Go.Vx.oFa rfl rfl (by exact rfl) (by exact Go.Vx.SzC.h) (by exact Go.Vx.AdC.h)
 |exact Go.Vx.oLa rfl rfl rfl
 |exact Go.Vx.oIa rfl rfl rfl
 |exact Go.Vx.oLe rfl rfl rfl rfl
 |exact Go.Vx.oLv rfl rfl rfl rfl
 |exact Go.Vx.oBx rfl rfl rfl
 |exact Go.Vx.oAl rfl
 |exact Go.Vx.oSt rfl rfl rfl rfl rfl
 |exact Go.Vx.oBd rfl rfl (by exact inferInstance) rfl):A:=h
def opy (h:A:=by first
 |exact Go.Vx.oMv rfl rfl
 |exact Go.Vx.oAs rfl rfl
 |exact Go.Vx.oIn rfl rfl rfl rfl
 |exact Go.Vx.oEx rfl rfl rfl
 |exact Go.Vx.oP1 rfl rfl (by first |with_reducible_and_instances assumption |exact rfl) rfl
 |exact Go.Vx.oP0 rfl rfl (by first |with_reducible_and_instances assumption |exact rfl) rfl
 |exact Go.Vx.oUn rfl rfl rfl rfl rfl
 |exact Go.Vx.opx):A:=h
def opz (h:A:=by first
 |exact Go.Vx.oBs rfl rfl (by exact inferInstance) (by exact inferInstance) rfl rfl rfl rfl (by exact inferInstance)
 |exact Go.Vx.oAp rfl rfl rfl rfl rfl rfl rfl rfl rfl (by with_reducible assumption)
 |exact Go.Vx.oAq rfl rfl rfl rfl rfl rfl rfl rfl (by with_reducible assumption)
 |exact Go.Vx.opx):A:=h
section
variable{T:Tb}{a9 r:I Oper}{o:Oper}{n:Nat}{l:I (Nat×U)}{O O':Sg}{u:U}
variable{C:PG}
variable{K:I U->Sg->Prop}
variable{d:Tmp}
def bT(hk:RU C T a9 r (fr n ((d,u)::l)) O' K)(h:bM T O (fr n l) o.op=some (u,O'):=by exact Go.Vx.opz)(he:o.dst=some d:=by exact rfl)(hw:cM a9 (fr n l) o=some true:=by exact Go.Vx.wA)(hd:Nat.blt d n=true:=by exact rfl):RU C T a9 (o::r) (fr n l) O K:=RS.op hw h he hd hk
variable{P:Program}
variable{b7:I RK}
variable{K:I RK->I U->Sg->Prop}
def eE(hk:RH P T a9 r (fr n ((d,u)::l)) O' ((3,⟨fr n l,o,u,true,true,O,O'⟩)::b7) K)(h:bM T O (fr n l) o.op=some (u,O'):=by exact Go.Vx.opz)(he:o.dst=some d:=by exact rfl)(hw:cM a9 (fr n l) o=some true:=by exact Go.Vx.wA)(hd:Nat.blt d n=true:=by exact rfl):RH P T a9 (o::r) (fr n l) O b7 K:=RD.act hw h he hd hk
def qU(hk:RH P T a9 r (fr n l) O' ((3,⟨fr n l,o,u,true,true,O,O'⟩)::b7) K)(h:bM T O (fr n l) o.op=some (u,O'):=by exact Go.Vx.opz)(he:o.dst=none:=by exact rfl)(hw:cM a9 (fr n l) o=some true:=by exact Go.Vx.wA):RH P T a9 (o::r) (fr n l) O b7 K:=RD.actn hw h he hk
def RD.ou(hk:RH P T a9 r (fr n ((d,u)::l)) O ((1,⟨fr n l,o,u,false,false,O,O⟩)::b7) K)(h:bM T O (fr n l) o.op=some (u,O):=by exact Go.Vx.opy)(he:o.dst=some d:=by exact rfl)(hw:cM a9 (fr n l) o=some true:=by exact Go.Vx.wA)(hd:Nat.blt d n=true:=by exact rfl):RH P T a9 (o::r) (fr n l) O b7 K:=RD.look hw h he hd hk
def RD.nt{d':Tmp}{j:Nat}{b:Bool}(hg:o.guard=some (j,true))(hj:BP a9 j=some d')(hl:c7 n l (.tmp d')=some (.bool b))(hb:b=false)(he:o.dst=some d)(hk:RH P T a9 r (fr n ((d,.tup [])::l)) O ((0,⟨fr n l,o,.tup [],false,false,O,O⟩)::b7) K)(hd:Nat.blt d n=true:=by exact rfl):RH P T a9 (o::r) (fr n l) O b7 K:=RD.no (zp hg hj hl hb) he hd hk
def RD.nf{d':Tmp}{j:Nat}{b:Bool}(hg:o.guard=some (j,false))(hj:BP a9 j=some d')(hl:c7 n l (.tmp d')=some (.bool b))(hb:b=true)(he:o.dst=some d)(hk:RH P T a9 r (fr n ((d,.tup [])::l)) O ((0,⟨fr n l,o,.tup [],false,false,O,O⟩)::b7) K)(hd:Nat.blt d n=true:=by exact rfl):RH P T a9 (o::r) (fr n l) O b7 K:=RD.no (zp hg hj hl hb) he hd hk
def aZ{K:I U->Sg->Prop}{v11:Type}{xs:I v11}{z:Int}{y:v11}(hy:aB xs z=some y)(hk:RU C T a9 r (fr n ((d,u)::l)) O K)(h:aB xs z=some y->bM T O (fr n l) o.op=some (u,O):=by intro hy;exact Go.Vx.oIx rfl rfl rfl hy)(he:o.dst=some d:=by exact rfl)(hw:cM a9 (fr n l) o=some true:=by exact Go.Vx.wA)(hd:Nat.blt d n=true:=by exact rfl):RU C T a9 (o::r) (fr n l) O K:=RS.op hw (h hy) he hd hk
def bP{v11:Type}{xs:I v11}{z:Int}{y:v11}(hy:aB xs z=some y)(hk:RH P T a9 r (fr n ((d,u)::l)) O ((1,⟨fr n l,o,u,false,false,O,O⟩)::b7) K)(h:aB xs z=some y->bM T O (fr n l) o.op=some (u,O):=by intro hy;exact Go.Vx.oIx rfl rfl rfl hy)(he:o.dst=some d:=by exact rfl)(hw:cM a9 (fr n l) o=some true:=by exact Go.Vx.wA)(hd:Nat.blt d n=true:=by exact rfl):RH P T a9 (o::r) (fr n l) O b7 K:=RD.look hw (h hy) he hd hk
def RS.ou{K:I U->Sg->Prop}(hk:RU C T a9 r (fr n ((d,u)::l)) O' K)(h:bM T O (fr n l) o.op=some (u,O'):=by exact Go.Vx.opx)(he:o.dst=some d:=by exact rfl)(hw:cM a9 (fr n l) o=some true:=by exact Go.Vx.wA)(hd:Nat.blt d n=true:=by exact rfl):RU C T a9 (o::r) (fr n l) O K:=RS.op hw h he hd hk
def RS.oz{K:I U->Sg->Prop}(hk:RU C T a9 r (fr n l) O' K)(h:bM T O (fr n l) o.op=some (u,O'):=by exact Go.Vx.opx)(he:o.dst=none:=by exact rfl)(hw:cM a9 (fr n l) o=some true:=by exact Go.Vx.wA):RU C T a9 (o::r) (fr n l) O K:=G8 hw h he hk
end
def gd{B:Prop}(h:B) (g:Hd B->A:=by
 intro h
 repeat' first
  |(refine Go.Vx.RD.nt rfl rfl rfl ?_ rfl ?_;· first |with_reducible_and_instances assumption |exact rfl)
  |(refine Go.Vx.RD.nf rfl rfl rfl ?_ rfl ?_;· first |with_reducible_and_instances assumption |exact rfl)
  |refine Go.Vx.RD.ou ?_
 exact h.h):A:=g ⟨h⟩
def gs{B: Prop}(h:B) (g:Hd B->A:=by
  intro h
  first
    |refine Go.Vx.gq ?_
    |with_reducible refine Go.Vx.sq ?_
    |with_reducible refine Go.Vx.WPU.skip ?_
    |with_reducible refine Go.Vx.RS.done ?_
    |with_reducible refine Go.Vx.WPU.ret ?_
    |with_reducible refine Go.Vx.WPU.exit ?_
    |(refine Go.Vx.RS.nt rfl rfl rfl ?_ rfl rfl ?_;· first |with_reducible_and_instances assumption |exact rfl)
    |(refine Go.Vx.RS.nf rfl rfl rfl ?_ rfl rfl ?_;· first |with_reducible_and_instances assumption |exact rfl)
    |(refine Go.Vx.RS.mo rfl rfl rfl ?_ rfl ?_;· exact Go.Vx.wA)
    |(refine Go.Vx.RS.in rfl rfl rfl rfl rfl ?_ rfl ?_;· exact Go.Vx.wA)
    | (refine Go.Vx.RS.p1 rfl rfl ?_ rfl rfl ?_ rfl ?_; · first | with_reducible_and_instances assumption | exact rfl
       exact Go.Vx.wA)
    | (refine Go.Vx.RS.p0 rfl rfl ?_ rfl rfl ?_ rfl ?_; · first | with_reducible_and_instances assumption | exact rfl
       exact Go.Vx.wA)
    |(refine Go.Vx.RS.a rfl rfl rfl ?_ rfl ?_;· exact Go.Vx.wA)
    |(refine Go.Vx.RS.ex rfl rfl rfl rfl ?_ rfl ?_;· exact Go.Vx.wA)
    |(refine Go.Vx.RS.un rfl rfl rfl rfl rfl rfl ?_ rfl ?_;· exact Go.Vx.wA)
    |refine Go.Vx.RS.ou ?_
    |refine Go.Vx.RS.oz ?_
  exact h.h):A:=g ⟨h⟩
def go{B:Prop}(h:B)(g:Hd B->A:=by intro h;(repeat' first |refine Go.Vx.gs ?_ |refine Go.Vx.rg1 rfl ?_);exact h.h):A:=g ⟨h⟩
def gn{B:Prop}(h:B)(g:Hd B->A:=by intro h;(repeat' refine Go.Vx.gs ?_);exact h.h):A:=g ⟨h⟩
def gr{B:Prop}(h:B)(g:Hd B->A:=by intro h;refine Go.Vx.gn ?_;refine Go.Vx.rg1 rfl ?_;refine Go.Vx.gn ?_;exact h.h):A:=g ⟨h⟩
def gx{v11:Type}{a b:v11}(h:some a=some b)(g:a=b->A:=by intro e;subst e;refine Go.Vx.go ?_;exact Go.Vx.rt1 rfl rfl rfl rfl):A:=g (sI h)
def gy{v11:Type}{a b:v11}(h:some a=some b)(g:a=b->A:=by intro e;subst e;refine Go.Vx.go ?_;exact Go.Vx.xC ⟨rfl,rfl⟩):A:=g (sI h)
def gB{β:Type}{t:Bool}{a b r:V β}(h:cond t a b=r):(t=true/\a=r)\/(t=false/\b=r):=by cases t;exact .inr ⟨rfl,h⟩;exact .inl ⟨rfl,h⟩
abbrev B.bv{v11:Type}(c:v11->I U)(l:I v11)(e:X)(sz st:Nat):B:=.vec (l.map c).flatten e sz st
abbrev cY(P:Program)(f:FuncId)(args:I U)(u:U):Prop:=bE P f args ⟨[],0⟩ (fun u' _=>u'=u/\bC 0 u')
section
variable{C:PG}{n0 n:Nat}{Q:Exit->I U->Sg->Prop}{l:I (Nat×U)}{h:I (Nat×B)}{nx:Nat}{c:Code}
def gV(i:Nat)(e:X)(sz n1:Nat)(hw:WPU C n0 c (fr n ((i,.vl nx 0 0 0)::l)) ⟨(nx,.vec [] e sz 0)::h,n1⟩ Q)(hi:c7 n l (.tmp i)=some .nils:=by exact rfl)(hs:Nat.blt 0 sz=true:=by exact rfl)(hn:nx+1=n1:=by exact rfl)(h0:n0<=nx:=by first |exact Nat.zero_le _ |exact zY rfl)(hd:dOk n (some i)=true:=by exact rfl):WPU C n0 c (fr n l) ⟨h,nx⟩ Q:=by subst hn;refine cJ (Gh.nilS i e sz ?_ h0 hi hd) (Nat.le_succ_of_le h0) hw;exact Nat.lt_of_succ_le (zY hs)
def gL{l':I (Nat×U)}{O:Sg}{id:Nat}(v08:Nat->I U->Sg->Prop)(E:I U->Sg->Prop)(k:Nat)(h0:v08 k (fr n l') O)
  (out:∀tm O,E tm O->Q .normal tm O) (round:∀m tm O,v08 m tm O->WPU C n0 c tm O (EL (fun tm' O'=>∃n' jO c6,n'<m/\v08 n' jO c6/\n0<=c6.nx/\Gh n0 tm' O' jO c6) (AS id (O9 n0 E Q))))
  (hn:n0<=O.nx:=by first |exact Nat.zero_le _ |exact zY rfl) (ht:HW l l':=by((repeat refine⟨rfl,?_⟩);exact trivial)):WPU C n0 (.block id (.loop c)) (fr n l) O Q:=cJ (Gh.sub ht) hn (WPU.loopK v08 E k h0 out round)
def dE{T:Tb}[t:th C T]{tm:I U}{O:Sg}{id:Nat}{a9:Array Oper}(pr:I (Nat×Nat))(h:RH C.prog T a9.toList a9.toList tm O [] (fun ks tm' O'=>qb a9.toList (ks.reverse.map (·.1)) pr=true/\YJ T ks.reverse pr/\Q .normal tm' O'))(bZ:ML a9.toList=true:=by kernel_rfl):WPU C n0 (.region id a9 true) tm O Q:=WPU.drawE t.ok pr bZ h
end
def gF{β:Type}{t:Bool}{a b r:V β}{A A1 A2:Prop}(J:cond t a b=r)(h1:t=true->a=r->A1)(h2:t=false->b=r->A2) (g:cond t a b=r->Hd (t=true->a=r->A1)->Hd (t=false->b=r->A2)->A:=by intro e h k;refine Go.Vx.go ?_;exact Go.Vx.cF e h.h k.h):A:=g J ⟨h1⟩ ⟨h2⟩
end Go.Vx
