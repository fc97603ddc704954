import Derived.CallsIn
import Derived.OrdersIn
import Derived.Test.YtmflfedkfdkipaaGreatP5
set_option linter.all false
open List Go.IntKind
open Nat hiding beq_eq
namespace Go.Vx
open Go Go.Rx
def eS(a:X U)(d:V Tmp)(u:U):X U:=match d with
 |none=>a|some d=>a.set d u
variable{x:Cx}{tm:X U}
def NW{a:X Value}(h:bD x tm a){u:U}{v:Value}(b:aF x u v)(d:V Tmp):bD x (eS tm d u) (E7 a d v):=by obtain _|d:=d;exact h;exact h.set d b
structure St(F:Nat->nT->Prop)(x:Cx)(tm:X U)(tv:X Value)(m:Nm)(w:Ep)(a:Act):Prop where
 h:jV x
 fr:Fr F x
 e:bD x tm tv
 fits:gZ m x.s w
 act:CU m x.s.nx tv a
def b7(P:Ua)(f:FuncId)(args:X U)(Y:Sg)(Q:U->Sg->Prop):Prop :=
 ∀F x vs m w a,x.Y=Y->jV x->Fr F x->bD x args vs->gZ m x.s w->oU m x.s.nx vs a->
  Calls P f a.toArray w fun e b=>∃y c u v cv,e=.returned cv/\Q u y.Y/\bS m x.s w c y.s b/\jU c y.s.nx v cv/\jV y/\Fr F y/\aF y u v/\Ke x.Y.nx x y/\x.Y.nx<=y.Y.nx
def Mo.nx{x y:Cx}(h:Mo x.Y.nx x y):x.Y.nx<=y.Y.nx:=by cases a:x.Y.nx with|zero=>omega|succ n=>have:=(h.ref n af af).1;omega
def W7(P:Ua):Mh P nc:=fun f args s v a h=>by simp[nc]at h
def JR(a:Act)(d:V Tmp)(v:Value):(a.put d v).defers=a.defers:=by cases d<;>rfl
section
variable{P:Ua}{T:Tb}(g:jW P T){F:Nat->nT->Prop}{x:Cx}{tm:X U}{j:X Value}{m:Nm}{w:Ep}{a:Act}
include g
variable{next:Act->Ep->Prop}{Q:Exit->Act->Ep->Prop}
def St.op(st:St F x tm j m w a)(o:Oper){u:U}{k:Sg}(h:bJ T x.Y tm o.op=some (u,k))
  (r:∀y l d b i,y.Y=k->St F y (eS tm o.dst u) l d b i->bS m x.s w d y.s b->Ke x.Y.nx x y->x.Y.nx<=y.Y.nx->i.defers=a.defers->next i b):o.wp P a w next Q:=by have⟨v,y,n,p,q,c⟩:=Ej st.h st.e h;refine W5 g (W7 P) st.fits st.act o n fun d b z f t=>?_;exact r y (E7 j o.dst v) d b _ p ⟨c.h,c.fr F st.fr,NW (c.mo.ke.E st.e.K3 st.e) q _,f.fits,(st.act.ext f.agree f.nx).put t o.dst⟩ f c.mo.ke c.mo.nx (JR _ _ _)
def St.call(st:St F x tm j m w a)(o:Oper){f:FuncId}{args:X U}(h:kQ T tm o.op=some (f,args)){R:U->Sg->Prop}(G:b7 P f args x.Y R)
  (B:∀y u p d b k,R u y.Y->St F y (eS tm o.dst u) p d b k->bS m x.s w d y.s b->Ke x.Y.nx x y->x.Y.nx<=y.Y.nx->k.defers=a.defers->next k b):o.wp P a w next Q:=by have⟨H,r,t⟩:=z79 st.e h;have⟨c,g1,g2⟩:=qsj g st.act o w r;unfold Oper.wp;rw[g1];show Calls P f _ w _;refine(G F x H m w c rfl st.h st.fr t st.fits g2).mono ?_;rintro e b ⟨y,d,u,v,I,rfl,z,i,C,A,q,n,l,D⟩;exact B y u (E7 j o.dst v) d b _ z ⟨A,q,NW (l.E st.e.K3 st.e) n _,i.fits,(st.act.ext i.agree i.nx).put C o.dst⟩ i l D (JR _ _ _)
def St.pP(st:St F x tm j m w a)(o:Oper){t e K:TypeId}{A B:He}{b:FK}{l:X (X U)}(E:o.op=.binOp .eql t A B K)(q:T.I1 t=some (.slice e))(G:cX tm A=some (.O b l))(H:cX tm B=some .J)
  (D:∀(z:FK) y dS f d n,(z=true->l=[])->y.Y=x.Y->St F y (eS tm o.dst<|.bool z) dS f d n->bS m x.s w f y.s d->Ke x.Y.nx x y->x.Y.nx<=y.Y.nx->n.defers=a.defers->next n d):o.wp P a w next Q:=by
 have⟨N,ex,u⟩:=kG st.e G;have⟨O,p,v⟩:=kG st.e H;simp[aF]at u v;subst v;have key:∃z:FK,(z=true->l=[])/\C1 T nc j x.s o.op=some (.bool z,x.s):=by rw[E];obtain⟨C,rfl |⟨r,rfl⟩⟩|⟨i,off,c,rfl,_⟩:=u;exact⟨true,fun _=>C,by simp[C1,kP,ex,p,tA,OV,HX,q]⟩;exact⟨false,by simp,by simp[C1,kP,ex,p,tA,OV,HX,q]⟩;exact⟨false,by simp,by simp[C1,kP,ex,p,tA,OV,HX,q]⟩
 have⟨z,I,L⟩:=key;refine W5 g (W7 P) st.fits st.act o L fun f d M k J=>?_;exact D z x (E7 j o.dst<|.bool z) f d _ I rfl ⟨st.h,st.fr,NW st.e (by simp[aF]) _,k.fits,(st.act.ext k.agree k.nx).put J o.dst⟩ k (Ke.refl _ _) (zF _) (JR _ _ _)
omit g in
def St.skip(st:St F x tm j m w a)(d:V Tmp):St F x (eS tm d (.a7 [])) (E7 j d undef) m w (a.put d undef):=
 ⟨st.h,st.fr,NW st.e (by simp[aF];exact⟨[],rfl,by simp[cJ],rfl⟩) _,st.fits,st.act.put (QR fun _=>by simp[undef,H3,aL]) d⟩
end
def cE(c:X Oper)(tm:X U)(o:Oper):V FK :=
 match o.guard with
 |none=>some true|some (j,a)=>match CZ c j with
  |none=>some false|some d=>match nth tm d with
   |some (.bool b)=>some (b==a)|some (.a7 _)=>some false
   |_=>none
def JO{f:X Oper}{m:X Value}(q:bD x tm m){o:Oper}{b:FK}(h:cE f tm o=some b):Un f m o=b:=by
 unfold cE at h;unfold Un;rcases k:o.guard with _|g;simp[k]at h;simp[h];have⟨j,n⟩:=g;simp[k]at h ⊢;rcases i:CZ f j with _|d;simp[i]at h;simp[h];simp[i,lW]at h ⊢;rcases a:tm[d]? with _|u;simp[a]at h;have⟨v,p,e⟩:=q.get a;rw[p];cases u with
 |bool c=>simp[a,zA]at h;simp[aF]at e;subst e;simp[h]|a7 l=>simp[a,zA]at h;simp[aF]at e;obtain⟨r,rfl,_⟩:=e;simp[h]
 |_=>simp[a]at h
def CP(a:V Nat):Fence:={ Fence.wide with round:=a }
variable{ro:V Nat}{n:Nat}{P:Ua}{w:Ep}
def Jw{f:FuncId}{args:Jg Value}{R:Ending->Ep->Prop}(h:Calls P f args w R):CallsIn (CP ro) n P f args w R:=(callsIn_wide (n:=n)).2 h
def Ub{row:String}{args:Jg Value}{R:Value->Ep->Prop}(h:Rows P row args w R):RowsIn (CP ro) n P row args w R:=fun c a _=>by
 have⟨v,b,r,s⟩:=h c a;exact⟨v,b,r,(stepsIn_wide (P:=P)).2 s⟩
def z2a:(CP ro).depth.isSome=true->1<=n:=fun h=>by simp[CP,Fence.wide]at h
def A4{o:Oper}{a:Act}{next:Act->Ep->Prop}{Q:Exit->Act->Ep->Prop}(b:∀c,o.op≠.defer c)(h:o.wp P a w next Q):o.wpIn (CP ro) n P a w next Q:=by refine⟨fun _ _=>trivial,?_⟩;have e:o.semAt (CP ro).round a.eval=execOp a.eval o:=Oper.semAt_eq _ _ _ b;rw[e];revert h;unfold Oper.wp;generalize (execOp a.eval o).run P w=r;intro h;unfold Oper.upon at h;split at h;exact h;exact h;exact h;exact⟨z2a,Jw h⟩;exact⟨z2a,Ub h⟩;exact h;exact h.elim
def UU{T:Tb}{Y:Sg}{op:Op}{r:U×Sg}(h:bJ T Y tm op=some r):∀c,op≠.defer c:=by rintro c rfl;simp[bJ,iV,tB,sW]at h
def I'{T:Tb}{op:Op}{r:FuncId×X U}(h:kQ T tm op=some r):∀c,op≠.defer c:=by rintro c rfl;simp[kQ]at h
structure PG where
 prog:Ua
 nb:Nat
 G:Cx->Nm->Ep->Prop
 ro:V Nat->Prop
 r9:FK
 st:∀{x y:Cx}{m m':Nm}{w w':Ep},G x m w->gZ m x.s w->bS m x.s w m' y.s w'->Ke nb x y->G y m' w'
abbrev PG.of(P:Ua):PG:=⟨P,0,fun _ _ _=>True,fun _=>True,false,fun _ _ _ _=>trivial⟩
structure Z0(C:PG)(n0:Nat)(x:Cx)(m:Nm)(w:Ep):Prop where
 nb:C.nb<=n0
 g:C.G x m w
variable{m:Nm}{d:Nm}{w':Ep}
def Z0.kB{C:PG}{a:Nat}{y:Cx}(h:Z0 C a x m w)(c:gZ m x.s w)(b:bS m x.s w d y.s w')(e:Ke a x y):Z0 C a y d w':=⟨h.nb,C.st h.g c b<|e.le h.nb⟩
def su(a:Nat)(w:Ep)(c:X Deferred):Prop:=a<=w.heap.size/\∃bs:X Nat,bs.Nodup/\c=bs.map (fun b=>{ target:=.collected b,args:=#[] })/\∀b∈bs,a<=b/\w.heap[b]? = some (.deferred<|some [])
variable{s:S}
def z8b(k:gZ m s w){b:Nat}{o:Obj}(h:w.heap[b]? = some o)(a:∀c e f,o≠.cells c e f)(r:∀q c,o≠.map q c):¬ TN m s b:=by
 rintro⟨i,c,g,j,rfl⟩;have:=k.fits.ok i c g;obtain⟨l,e,p⟩|⟨u,t⟩:=c;simp[xU]at this
 match p,this with
 |0,v=>simp[BR]at v;rw[v.2]at h;exact a _ _ _ (Option.some.inj h).symm|1,v=>simp[gQ]at j
 |n+2,v=>simp[BR]at v;have⟨_,_,v,_⟩:=v;rw[v]at h;exact a _ _ _ (Option.some.inj h).symm
 simp[xU]at this;rw[this]at h;exact r _ _ (Option.some.inj h).symm
def zcm{j:S}(g:gZ m s w)(a:bS m s w d j w'){b:Nat}{o:Obj}(h:w.heap[b]? = some o)(i:∀c e f,o≠.cells c e f)(k:∀q c,o≠.map q c):w'.heap[b]? = some o:=by rw[a.same b (Array.getElem?_eq_some_iff.1 h).1 (z8b g h i k)];exact h
def su.kB{a:Nat}{o:S}{c:X Deferred}(h:su a w c)(l:gZ m s w)(f:bS m s w d o w'):su a w' c:=by have⟨i,bs,j,k,e⟩:=h;exact⟨Zt i f.size,bs,j,k,fun b g=>⟨(e b g).1,zcm l f (e b g).2 aZ aZ⟩⟩
structure DR(C:PG)(b0:Nat)(ds:X Deferred)(w':Ep)(ds':X Deferred):Prop where
 eq:C.r9=false->ds'=ds
 ok:C.r9=true->su b0 w' ds'
def DR.trans{C:PG}{b:Nat}{e c a:X Deferred}{j i:Ep}(h:DR C b e j c)(g:DR C b c i a):DR C b e i a:=⟨fun f=>(g.eq f).trans (h.eq f),g.ok⟩
def DR.here{C:PG}{b:Nat}{e a:X Deferred}{c:Ep}(h:DR C b e c a):DR C b a c a:=⟨fun _=>rfl,h.ok⟩
def DR.kB{C:PG}{b:Nat}{c a:X Deferred}{m:Nm}{s:S}{w:Ep}{d:Nm}{i:S}{w':Ep}(h:DR C b c w a)(f:gZ m s w)(e:bS m s w d i w'):DR C b c w' a:=⟨h.eq,fun g=>(h.ok g).kB f e⟩
def fY(C:PG)(Y:Sg)(tm:X U)(o:Oper)(R:U->Sg->Prop):Prop :=
 ∀(F:Nat->nT->Prop)(x:Cx)(g:X Value)(m:Nm)(w:Ep)(a:Act)(next:Act->Ep->Prop)(Q:Exit->Act->Ep->Prop),x.Y=Y->St F x tm g m w a->Z0 C x.Y.nx x m w-> (∀u y f e b c,R u y.Y->St F y (eS tm o.dst u) f e b c->bS m x.s w e y.s b->Ke x.Y.nx x y->x.Y.nx<=y.Y.nx->c.defers=a.defers->next c b)->∀ro,C.ro ro->o.wpIn (CP ro) 0 C.prog a w next Q
def RU(C:PG)(T:Tb)(a:X Oper):X Oper->X U->Sg->(X U->Sg->Prop)->Prop
 |[],tm,Y,K=>K tm Y|o::r,tm,Y,K=>(cE a tm o=some true/\∃u c,bJ T Y tm o.op=some (u,c)/\RU C T a r (eS tm o.dst u) c K)\/ (cE a tm o=some true/\∃f args R,kQ T tm o.op=some (f,args)/\b7 C.prog f args Y R/\∀u c,R u c->RU C T a r (eS tm o.dst u) c K)\/ (cE a tm o=some false/\RU C T a r (eS tm o.dst<|.a7 []) Y K)\/ (cE a tm o=some true/\∃t g h i e b l,o.op=.binOp .eql t g h i/\T.I1 t=some (.slice e)/\cX tm g=some (.O b l)/\cX tm h=some .J/\∀z:FK,(z=true->l=[])->RU C T a r (eS tm o.dst<|.bool z) Y K)\/ (cE a tm o=some true/\∃R,fY C Y tm o R/\∀u c,R u c->RU C T a r (eS tm o.dst u) c K)
def M?(C:PG)(c:Nat)(F:Nat->nT->Prop)(x:Cx)(m:Nm)(w:Ep)(h:X Deferred)(f:Nat)(Q:Exit->X U->Sg->Prop):Exit->Act->Ep->Prop:=fun e b w'=>
 ∃y a g d,Q e a y.Y/\St F y a g d w' b/\bS m x.s w d y.s w'/\Ke c x y/\c<=y.Y.nx/\DR C f h w' b.defers
def I6(C:PG)(b:Nat)(c:Code)(tm:X U)(Y:Sg)(Q:Exit->X U->Sg->Prop):Prop :=
 b<=Y.nx->∀F x f m w a e,x.Y=Y->St F x tm f m w a->Z0 C b x m w->DR C e a.defers w a.defers->∀ro,C.ro ro->c.wpIn (CP ro) 0 C.prog (M? C b F x m w a.defers e Q) a w
section
variable{C:PG}{n0:Nat}{Q:Exit->X U->Sg->Prop}{tm:X U}{Y:Sg}
def BP(K:X U->Sg->Prop)(Q:Exit->X U->Sg->Prop):Exit->X U->Sg->Prop
 |.normal,tm,s=>K tm s|e,tm,s=>Q e tm s
def I6.seq{p q:Code}(h:I6 C n0 p tm Y (BP (fun tm Y=>I6 C n0 q tm Y Q) Q)):I6 C n0 (.seq p q) tm Y Q:=fun K F x M m w a k L st v J ro o=>by
 refine wpIn_seq<|wpIn_mono (h K F x M m w a k L st v J ro o) ?_;rintro e A w' ⟨y,j,l,d,r,t,c,f,u,g⟩;cases e with
 |normal=>apply wpIn_mono (r u F y l d w' A k rfl t (v.kB st.fits c f) g.here ro o);rintro e B N ⟨z,D,b,i,g1,g2,E,G,H,I⟩;exact⟨z,D,b,i,g1,g2,c.trans E,f.trans G,H,g.trans I⟩
 |_=>exact⟨y,j,l,d,r,t,c,f,u,g⟩
def I6.skip(h:Q .normal tm Y):I6 C n0 .skip tm Y Q:=fun e F x f m w a g b st j c ro i=>wpIn_skip ⟨x,tm,f,m,b ▸ h,st,bS.refl st.fits,Ke.refl _ _,b ▸ e,c⟩
def I6.ret(h:Q .ret tm Y):I6 C n0 .ret tm Y Q:=fun e F x f m w a g b st j c ro i=>wpIn_ret ⟨x,tm,f,m,b ▸ h,st,bS.refl st.fits,Ke.refl _ _,b ▸ e,c⟩
def I6.exit{id:Nat}(h:Q (.exit id) tm Y):I6 C n0 (.exit id) tm Y Q:=fun e F x f m w a g b st j c ro i=>wpIn_exit ⟨x,tm,f,m,b ▸ h,st,bS.refl st.fits,Ke.refl _ _,b ▸ e,c⟩
def I6.cond{c:He}{p q:Code}{t:FK}(z:cX tm c=some (.bool t))(u:t=true->I6 C n0 p tm Y Q)(y:t=false->I6 C n0 q tm Y Q):I6 C n0 (.cond c p q) tm Y Q:=fun k F x o m w a f l st i j ro h=>by
 have⟨v,r,g⟩:=kG st.e z;simp[aF]at g;subst g;have b:=(st.act.F8 r).at;simp[H3]at b;obtain _|_:=t;exact wpIn_cond_false b.symm<|y rfl k F x o m w a f l st i j ro h;exact wpIn_cond_true b.symm (u rfl k F x o m w a f l st i j ro h)
def wK(id:Nat)(Q:Exit->X U->Sg->Prop):Exit->X U->Sg->Prop
 |.exit a,tm,s=>if a=id then Q .normal tm s else Q (.exit a) tm s|e,tm,s=>Q e tm s
def cK{id:Nat}{c:Code}(h:I6 C n0 c tm Y (wK id Q)):I6 C n0 (.block id c) tm Y Q:=fun r F x u m w a l t st p q ro o=>by
 refine wpIn_block<|wpIn_mono (h r F x u m w a l t st p q ro o) ?_;rintro e v w' ⟨y,b,g,d,f,i⟩;cases e with
 |exit j=>simp[Exit.inBlock];simp[wK]at f;by_cases k:j=id;simp[k,It]at f ⊢;exact⟨y,b,g,d,f,i⟩;simp[k,MF]at f ⊢;exact⟨y,b,g,d,f,i⟩|_=>exact⟨y,b,g,d,f,i⟩
def I6.loop{c:Code}(g:Nat->X U->Sg->Prop)(n:Nat)(E:g n tm Y)(round:∀n tm Y,g n tm Y->I6 C n0 c tm Y (BP (fun Z Y'=>∃J,J<n/\g J Z Y') Q)):I6 C n0 (.loop c) tm Y Q:=by
 intro T F x G m w a K W st I R ro fO b k L O N hr;have key:∀n tm Y,g n tm Y->n0<=Y.nx->∀x G m w a,x.Y=Y->St F x tm G m w a->Z0 C n0 x m w->DR C K a.defers w a.defers->∃e H w',M? C n0 F x m w a.defers K Q e H w'/\ArrivesIn (Machine.fenced C.prog<|CP ro) C.prog (lone (b.atR a (.code c :: .inLoop c::k)) L w) b k L e H w':=by
  intro n;induction n using Nat.strongRecOn with
  |_ n ih=>
   intro tm Y hI T x G m w a W st I R;have⟨e,r,f,⟨y,A,v,q,i,t,j,o,u,p⟩,h⟩:=round n tm Y hI T F x G m w a K W st I R ro fO b (.inLoop c::k) L O N hr;cases e with
   |normal=>have⟨J,aG,M⟩:=i;have⟨D,B,yM,⟨z,Tr,Tq,G7,we,Gg,SS,Hf,Gu,Hw⟩,SQ⟩:=ih J aG A y.Y M u y v q f r rfl t (I.kB st.fits j o) p.here;exact⟨D,B,yM,⟨z,Tr,Tq,G7,we,Gg,j.trans SS,o.trans Hf,Gu,p.trans Hw⟩,.of_steps (StepsIn.trans h<|.one (fenced_calm N hr rfl) stepR_inLoop) SQ⟩
   |exit id=>exact⟨_,r,f,⟨y,A,v,q,i,t,j,o,u,p⟩,.pass (x:=.inLoop c) rfl (fun _ _=>.inl aZ) h⟩|goto l=>exact⟨_,r,f,⟨y,A,v,q,i,t,j,o,u,p⟩,.pass (x:=.inLoop c) rfl (fun _ _=>.inl aZ) h⟩
   |ret=>exact⟨_,r,f,⟨y,A,v,q,i,t,j,o,u,p⟩,.pass (x:=.inLoop c) rfl (fun _ _=>.inl aZ) h⟩|panic ch=>exact⟨_,r,f,⟨y,A,v,q,i,t,j,o,u,p⟩,.pass (x:=.inLoop c) rfl (fun _ _=>.inl aZ) h⟩
   |outgrown=>exact⟨_,r,f,⟨y,A,v,q,i,t,j,o,u,p⟩,.pass (x:=.inLoop c) rfl (fun _ _=>.inl aZ) h⟩
 have⟨e,H,w',i,h⟩:=key n tm Y E T x G m w a W st I R;exact⟨e,H,w',i,.of_steps (.one (fenced_calm N hr rfl) stepR_loop) h⟩
def Gh(n0:Nat)(tm:X U)(Y:Sg)(tm':X U)(b:Sg):Prop :=
 ∀F x a,x.Y=Y->jV x->Fr F x->bD x tm a->∃y,(∀m w,gZ m x.s w->bS m x.s w m y.s w)/\y.Y=b/\jV y/\Fr F y/\bD y tm' a/\Ke n0 x y
def Gh.refl(n0:Nat)(tm:X U)(Y:Sg):Gh n0 tm Y tm Y:=fun F x e c h a b=>⟨x,fun m w a=>bS.refl a,c,h,a,b,Ke.refl _ _⟩
def Gh.trans{tm' e:X U}{b c:Sg}(h:Gh n0 tm Y tm' b)(h':Gh n0 tm' b e c):Gh n0 tm Y e c:=fun F x g A v a u=>by
 have⟨y,f,o,p,q,r,t⟩:=h F x g A v a u;have⟨z,g1,g2,i,j,k,l⟩:=h' F y g o p q r;exact⟨z,fun m w a=>(f m w a).trans (g1 m w (f m w a).fits),g2,i,j,k,t.trans l⟩
def cD{c:Code}{tm':X U}{Y':Sg}(h:Gh n0 tm Y tm' Y')(k:n0<=Y'.nx)(I:I6 C n0 c tm' Y' Q):I6 C n0 c tm Y Q:=fun L F x j m w a l J st G H ro p=>by
 have⟨y,v,A,B,D,E,i⟩:=h F x j J st.h st.fr st.e;have b:=v m w st.fits;apply wpIn_mono (I k F y j m w a l A ⟨B,D,E,b.fits,st.act.ext b.agree b.nx⟩ (G.kB st.fits b i) H ro p);rintro e K w' ⟨z,o,f,g,g1,g2,q,r,t,u⟩;exact⟨z,o,f,g,g1,g2,b.trans q,i.trans r,t,u⟩
def I6.after{c:Code}{j:Exit->X U->Sg->Prop}(h:I6 C n0 c tm Y j)(J:∀e tm Y,n0<=Y.nx->j e tm Y->∃b i,n0<=i.nx/\Gh n0 tm Y b i/\Q e b i):I6 C n0 c tm Y Q:=fun I F x L m w a l K st G H ro p=>by
 apply wpIn_mono (h I F x L m w a l K st G H ro p);rintro e M w' ⟨y,b,k,d,v,f,A,B,D,E⟩;have⟨o,N,q1,q2,q3⟩:=J e b y.Y D v;have⟨z,g1,g2,q,r,t,u⟩:=q2 F y k rfl f.h f.fr f.e;have g:=g1 d w' f.fits;exact⟨z,o,k,d,g2 ▸ q3,⟨q,r,t,g.fits,f.act.ext g.agree g.nx⟩,A.trans g,B.trans u,g2 ▸ q1,E⟩
variable{T:Tb}(j:jW C.prog T)
include j
def Lb(v:Jg Oper)(E:Exit->Act->Ep->Prop){F:Nat->nT->Prop}{x0:Cx}{m0:Nm}{w0:Ep}{df:X Deferred}(K:X U->Sg->Prop)(I:Z0 C n0 x0 m0 w0)(q:gZ m0 x0.s w0)(ro:V Nat)(fO:C.ro ro):
  ∀(k:X Oper)(i:Nat),v.toList.drop i=k->∀(x:Cx)(tm:X U)(tv:X Value)(m:Nm)(w:Ep)(a:Act),St F x tm tv m w a->a.defers=df->bS m0 x0.s w0 m x.s w->Ke n0 x0 x->n0<=x.Y.nx->RU C T v.toList k tm x.Y K-> (∀y tm' A d w' a',K tm' y.Y->St F y tm' A d w' a'->bS m0 x0.s w0 d y.s w'->Ke n0 x0 y->n0<=y.Y.nx->a'.defers=df->E .normal a' w')->wpOpsIn (CP ro) 0 C.prog v E (range' i k.length) a w
 |[],i,_,x,tm,tv,m,w,a,st,hd,D,H,G,h,Z=>by simp[zS,range'_zero,wpOpsIn];exact Z x tm tv m w a h st D H G hd
 |o::k,i,yG,x,tm,tv,m,w,a,st,hd,D,H,G,h,Z=>by
  have ho:v[i]? = some o:=by have:=congrArg (fun l=>l[0]?) yG;simpa using this
  have bH:v.toList.drop (i+1)=k:=by have:=congrArg List.tail yG;simpa using this
  simp[zO,range'_succ,wpOpsIn,ho,qoe (st.act m<|aP.refl _ _) v o];simp only[RU]at h;obtain⟨B,u,Y',r,W⟩|⟨B,f,args,R,r,W,h3⟩|⟨B,r⟩|⟨B,t,xo,yo,ty,e,b,l,r,W,h3,h4,h5⟩|⟨B,R,r,W⟩:=h;rw[JO st.e B];simp[It];refine A4 (UU r)<|st.op j o r fun y A J p L e1 M N O jL nG=>?_;exact Lb v E K I q ro fO k (i+1) bH y _ A J p L M (nG.trans hd) (D.trans N) (H.trans<|O.le G) af (e1 ▸ W) Z;rw[JO st.e B];simp[It];refine A4 (I' r)<|st.call j o r W fun y u A J p L hR M N O jL nG=>?_;exact Lb v E K I q ro fO k (i+1) bH y _ A J p L M (nG.trans hd) (D.trans N) (H.trans<|O.le G) af (h3 u y.Y hR) Z;rw[JO st.e B];simp[gj,MF];exact⟨fun _ _=>trivial,Lb v E K I q ro fO k (i+1) bH x _ _ m w _ (st.skip o.dst) ((JR _ _ _).trans hd) D H G r Z⟩;rw[JO st.e B];simp[It];refine A4 (by rw[r];intro c hc;cases hc)<|st.pP j o r W h3 h4 fun z y A J p L hz e1 M N O jL nG=>?_;exact Lb v E K I q ro fO k (i+1) bH y _ A J p L M (nG.trans hd) (D.trans N) (H.trans<|O.le G) af (e1 ▸ h5 z hz) Z;rw[JO st.e B];simp[It];refine r F x tv m w a _ _ rfl st ⟨Zt I.nb G,(I.kB q D H).g⟩ (fun u y A J p L hR M N O jL nG=>?_) ro fO;exact Lb v E K I q ro fO k (i+1) bH y _ A J p L M (nG.trans hd) (D.trans N) (H.trans<|O.le G) af (W u y.Y hR) Z
def I6.region{id:Nat}{c:Jg Oper}(h:RU C T c.toList c.toList tm Y (fun b e=>Q .normal b e)):I6 C n0 (.region id c false) tm Y Q:=fun v F x A m w a g z st t u ro k=>by
 subst z;refine wpIn_region ?_;have:=Lb j c (M? C n0 F x m w a.defers g Q) (F:=F) (x0:=x) (m0:=m) (w0:=w) (df:=a.defers) (fun b e=>Q .normal b e) t st.fits ro k c.toList 0 aZ x tm A m w a st rfl (bS.refl st.fits) (Ke.refl _ _) v h
  (fun y b i d w' B l o f p q r=>⟨y,b,i,d,l,o,f,p,q,by rw[r];exact u.kB st.fits f⟩)
 rw[range_eq_range'];simpa using this
end
def mF(T:Tb)(Y:Sg)(tm:X U):X ResultVar->V (X U)
 |[]=>some []|.tmp t::r=>match nth tm t with
  |some v=>(match mF T Y tm r with
   |some l=>some (v::l)|none=>none)
  |none=>none
 |.cell a t::r=>match tB T Y tm (.load t<|.tmp a)with
  |some v=>(match mF T Y tm r with
   |some l=>some (v::l)|none=>none)
  |none=>none
def nD:X U->U
 |[v]=>v|l=>.a7 l
def WA{T:Tb}{x:Cx}(E:jV x){tm:X U}{o:X Value}(A:bD x tm o):∀{j:X ResultVar}{r:X U},mF T x.Y tm j=some r->∃p,H4 T o x.s j=some p/\bD x r p
 |[],r,h=>by simp[mF,zA]at h;subst h;exact⟨[],rfl,bD.nil x⟩
 |.tmp t::j,r,h=>by simp[mF,lW]at h;rcases c:tm[t]? with _|u;simp[c]at h;rcases g:mF T x.Y tm j with _|l;simp[c,g]at h;simp[c,g,zA]at h;subst h;have⟨v,f,q⟩:=A.get c;have⟨p,z,C⟩:=WA E A g;exact⟨v::p,by simp[H4,lW,f,z],bD.cons q C⟩
 |.cell a t::j,r,h=>by
  simp[mF]at h;rcases c:tB T x.Y tm (.load t<|.tmp a)with _|u;simp[c]at h;rcases g:mF T x.Y tm j with _|l;simp[c,g]at h;simp[c,g,zA]at h;subst h;have⟨v,y,f,q,z,C⟩:=qyp E A c;have⟨p,G,H⟩:=WA E A g;have N:kP T o (.load t<|.tmp a)=none:=rfl;have K:CQ T o x.s (.load t<|.tmp a)=none:=rfl;have J:di T o (.load t<|.tmp a)=none:=rfl;unfold C1 at f;simp[N,K,J]at f;rcases B:xS T o x.s (.load t<|.tmp a)with _|v';simp[B]at f;simp[B,zA,zB]at f;obtain⟨rfl,O⟩:=f;refine⟨v'::p,by simp[H4,B,G],bD.cons ?_ H⟩;have I:Mo y.Y.nx y x:=by refine⟨fun k L F=>?_,fun i row e M=>by rw[O];exact M⟩;rw[q]at F ⊢;refine⟨F,fun b D=>⟨b,D,zF _,fun _=>⟨?_,fun l e R st h=>⟨l,h⟩⟩⟩⟩;have:=(C.mo.ref k (by rw[<-q];exact L) F).2 b (by rw[q];exact D);have⟨Q,q1,q2,q3⟩:=this;rw[D]at q1;cases q1;exact(q3 rfl).1.symm
  exact I.ke u _ (aF.K3 _ _ z) z
def zco{b:X U}{a:X Value}(h:bD x b a):aF x (nD b) (H8 a):=by
 match b,a,h with
 |[],a,h=>rw[h.K4];simp only[nD,H8,aF];exact⟨[],rfl,by simp[cJ],rfl⟩|[u],a,h=>obtain⟨v,g,rfl,e,c⟩:=h.inv;rw[c.K4];exact e
 |u::k::b,a,h=>obtain⟨v,g,rfl,e,c⟩:=h.inv;obtain⟨l,f,rfl,i,j⟩:=c.inv;simp only[nD,H8,aF];exact⟨_,rfl,h.1,h.2⟩
def H6:Nat->X U->X U
 |0,l=>l|n+1,[]=>.a7 []::H6 n []
 |n+1,v::l=>v::H6 n l
def qvt{x:Cx}:∀(n:Nat){b:X U}{a:X Value},bD x b a->bD x (H6 n b) (pad n a)
 |0,b,a,h=>h|n+1,[],a,h=>by rw[h.K4];exact bD.cons (by simp[aF];exact⟨[],rfl,by simp[cJ],rfl⟩) (qvt n<|bD.nil x)
 |n+1,u::b,a,h=>by obtain⟨v,f,rfl,c,e⟩:=h.inv;exact bD.cons c (qvt n e)
section
variable{P:Ua}{T:Tb}(a:jW P T)
include a
def Kw{f:FuncId}{fn:Func}{c:Code}{args:X U}{Y:Sg}{R:U->Sg->Prop}(hf:T.fn f=some fn)(hb:fn.body=some c)
  (h:I6 (PG.of P) Y.nx c (H6 fn.ntmps args) Y fun e p I=>(e=.normal\/e=.ret)/\∃l,mF T I p fn.results.toList=some l/\∃A t,Y.nx<=t.nx/\Gh Y.nx [nD l] I [A] t/\R A t):b7 P f args Y R:=fun F x N m w b G hh fW he eC K=>by
 have⟨E,_⟩:=a.fn f fn hf;have iL:b.length=N.length:=by rw[<-K.at];simp
 apply calls_of_wp E hb;have j:CU m x.s.nx (pad fn.ntmps N) { tmps:=b.toArray++Array.replicate (fn.ntmps-b.toArray.size) undef,defers:=[] }:=fun d kX=>by simp only[Ee,JS,K d kX,iL,HB];apply Be;simp[nE,H3,undef]
 apply wp_mono ((wpIn_wide (n:=0)).1 (h (zF _) F x _ m w _ 0 G ⟨hh,fW,qvt _ he,eC,j⟩ ⟨qq _,trivial⟩ ⟨fun _=>rfl,fun h=>by cases h⟩ none trivial));rintro e B w' ⟨y,p,dS,d,⟨tU,l,Q,A,t,jL,W,hR⟩,i,Z,jE,hn,k⟩;have nG:B.defers=[]:=k.eq rfl;have⟨o,wc,y8⟩:=WA i.h i.e Q;have C:∀g,aP y.s.nx d g->(results fn B.tmps).run P w'=.ok (H3 g<|H8 o) w':=fun g r=>by rw[i.act g r];exact z0b a (i.fits g r) wc
 have jJ:jU d y.s.nx (H8 o) (H3 d<|H8 o):=fun g r=>by have D:=C g r;rw[C d<|aP.refl _ _]at D;simp at D;exact D.symm
 have⟨z,z1,O,z3,z4,z5,z6⟩:=W F y [H8 o] rfl i.h i.fr (bD.cons (zco y8)<|bD.nil y);have⟨v0,pb,e0,z7,_⟩:=z5.inv;cases e0;have M:=z1 d w' i.fits;have H:bodyPost P fn (fun e q=>∃y J u v L,e=.returned L/\R u y.Y/\bS m x.s w J y.s q/\jU J y.s.nx v L/\jV y/\Fr F y/\aF y u v/\Ke x.Y.nx x y/\x.Y.nx<=y.Y.nx) .ret B w' :=
  ⟨nG,_,C d<|aP.refl _ _,z,d,A,H8 o,_,rfl,O ▸ hR,Z.trans M,jJ.ext (aP.refl _ _) M.nx,z3,z4,z7,G ▸ jE.trans z6,by rw[G,O];exact jL⟩
 obtain rfl |rfl:=tU;exact H;exact H
end
def b7.mono{P:Ua}{f:FuncId}{args:X U}{Y:Sg}{R b:U->Sg->Prop}(h:b7 P f args Y R)(A:∀u c,R u c->b u c):b7 P f args Y b:=fun F x z m w a t r k q j g=>
 (h F x z m w a t r k q j g).mono fun _ _ ⟨y,e,u,v,i,l,o,p⟩=>⟨y,e,u,v,i,l,A _ _ o,p⟩
end Go.Vx
namespace Go.Vx
open Go Go.Rx
def b7.pure{P:Ua}{f:FuncId}{args:X U}{R:U->Prop}(h:b7 P f args ⟨[],0⟩ (fun u _=>R u/\aW 0 u))(M:aH 0 args)(Y:Sg):b7 P f args Y (fun u A=>R u/\A=Y):=fun F x W m w d S n J O H D=>by
 have K:jV ⟨fun _=>none,⟨[],0⟩,x.s⟩:=⟨fun k b a=>by simp[gt]at a,fun k k' b b' i a=>by simp[gt]at a,n.bd⟩;have Z:Mo 0 x ⟨fun _=>none,⟨[],0⟩,x.s⟩:=⟨fun k Q=>af,fun _ _ _ h=>h⟩;refine(h (fun i b=>lk x.s.h i=some b) ⟨fun _=>none,⟨[],0⟩,x.s⟩ W m w d rfl K (fun i b a=>⟨a,fun k c N=>by simp[gt]at N⟩) (Z.ke.E M O) H D).mono ?_;rintro e t ⟨y,B,u,v,G,rfl,⟨L,T⟩,C,V,xu,q,z,_,_⟩;have r:Mo x.Y.nx x ⟨x.I,x.Y,y.s⟩:=⟨fun k _ g=>⟨g,fun b a=>⟨b,a,zF _,fun _=>⟨rfl,fun l e sz st h=>⟨l,h⟩⟩⟩⟩,fun i row e o=>(q i _ o).1⟩;have p:Mo 0 y ⟨x.I,x.Y,y.s⟩:=⟨fun k Q=>af,fun _ _ _ h=>h⟩;refine⟨⟨x.I,x.Y,y.s⟩,B,u,v,G,rfl,⟨L,S⟩,C,V,⟨fun k b a=>?_,n.inj,xu.bd⟩,fun i b a=>?_,p.ke u v T z,r.ke,zF _⟩;have⟨j,g⟩:=n.ok k b a;exact⟨j,g.mono r rfl fun i c _ o=>(q i c o).1⟩;have⟨j,g⟩:=J i b a;exact⟨(q i b j).1,g⟩
def cc(n:Nat):B->Prop
 |.row l _=>aH n l|.vec l _ _ _=>aH n l
 |.map a _=>∀e∈a,aW n e.key/\aW n e.val
def HA(n:Nat):X (Nat×B)->Prop
 |[]=>True|(_,b)::h=>cc n b/\HA n h
def cut(n:Nat):X (Nat×B)->X (Nat×B)
 |[]=>[]|(k,b)::h=>cond (blt k n) ((k,b)::cut n h) (cut n h)
def Bt(n:Nat)(h:X (Nat×B))(k:Nat):gt (cut n h) k=if k<n then gt h k else none:=by induction h with|nil=>simp[cut,gt]|cons p h d=>have⟨j,b⟩:=p;simp[cut];by_cases c:j<n;rw[A3 c];simp[zC,aR,d];by_cases a:j=k;subst a;simp[c];simp[a];rw[V3 c];simp[zD,aR,d];by_cases a:j=k;subst a;simp[c];simp[a]
def z6x{n:Nat}{h:X (Nat×B)}(d:HA n h){k:Nat}{b:B}(a:gt h k=some b):cc n b:=by induction h with|nil=>simp[gt]at a|cons p h e=>have⟨j,c⟩:=p;simp[HA]at d;simp[aR]at a;split at a;cases a;exact d.1;exact e d.2 a
def oR.kN{n:Nat}{x y:Cx}{k:Nat}{b:B}(h:oR x k b)(p:cc n b)(hm:Mo n x y)(g:y.I k=x.I k)(q:∀i c,x.I k=some i->lk x.s.h i=some c->lk y.s.h i=some c):oR y k b:=by
 cases b with
 |row l e=>have⟨r,i,t,a,f,d⟩:=h;exact⟨r,i,t,by rw[g,a],q _ _ a f,hm.ke.E p d⟩
 |vec l e D st=>have⟨r,z,o⟩:=h;refine⟨r,z,?_⟩;obtain⟨o,w⟩|⟨i,t,a,f,d⟩:=o;exact .inl ⟨o,by rw[g,w]⟩;exact .inr ⟨i,t,by rw[g,a],q _ _ a f,hm.ke.E p d⟩
 |map C A=>have⟨i,m,a,f,d⟩:=h;refine⟨i,m,by rw[g,a],q _ _ a f,d.1,fun j e u=>?_⟩;have⟨v,q1,q2,q3,q4⟩:=d.2 j e u;have:=p e<|zX u;exact⟨v,q1,hm.ke _ _ this.1 q2,hm.ke _ _ this.2 q3,q4⟩
def JE:X FK->X U->X U
 |true::l,_::a=>.J9::JE l a|false::l,u::a=>u::JE l a
 |_,a=>a
def WW{x:Cx}:∀(l:X FK){b:X U}{a:X Value},bD x b a->bD x (JE l b) a
 |[],b,a,h=>by cases b<;>exact h
 |true::l,[],a,h=>h|false::l,[],a,h=>h
 |true::l,u::b,a,h=>by obtain⟨v,e,rfl,d,c⟩:=h.inv;exact bD.cons (by simp[aF]) (WW l c)
 |false::l,u::b,a,h=>by obtain⟨v,e,rfl,d,c⟩:=h.inv;exact bD.cons d (WW l c)
def Gh.J9(e:Nat)(l:X FK)(b:X U)(Y:Sg):Gh e b Y (JE l b) Y:=fun F x f d h a c=>⟨x,fun m w a=>bS.refl a,d,h,a,WW l c,Ke.refl _ _⟩
def Gh.cut{p a:Nat}{n:X U}{Y:Sg}(r:p<=a)(A:a<=Y.nx)(f:aH a n)(v:HA a (Vx.cut a Y.h)):Gh p n Y n ⟨Vx.cut a Y.h,a⟩:=fun F x C y D g u=>by
 subst y;have j:Mo a x ⟨x.I,⟨Vx.cut a x.Y.h,a⟩,x.s⟩:=by refine⟨fun k o _=>⟨o,fun b f=>?_⟩,fun _ _ _ h=>h⟩;simp[Bt,o,It]at f;exact⟨b,f,zF _,fun _=>⟨rfl,fun l e B st h=>⟨l,h⟩⟩⟩
 have sub:∀{k b},gt (Vx.cut a x.Y.h) k=some b->k<a/\gt x.Y.h k=some b:=fun{k b} d=>by simp only[Bt]at d;split at d;exact⟨by assumption,d⟩;cases d
 refine⟨⟨x.I,⟨Vx.cut a x.Y.h,a⟩,x.s⟩,fun m w g=>bS.refl g,rfl,⟨fun k b d=>?_,fun k z b q i g1 g2=>D.inj k z b q i (sub g1).2 (sub g2).2,D.bd⟩,fun i b O=>?_,j.ke.E f u,j.ke.le r⟩;exact⟨(sub d).1,(D.ok k b (sub d).2).2.kN (z6x v d) j rfl fun _ _ _ h=>h⟩;exact⟨(g i b O).1,fun k c t=>(g i b O).2 k c (sub t).2⟩
def qyy{l:X Value}{i:Nat}{v:Value}(h:l[i]? = some v):l.set i v=l:=by apply od;intro j;rw[ja];split;rename_i e;subst e;have:=(zG.1 h).1;simp only[this,It];exact h.symm;rfl
def Gh.kT{n0:Nat}{tm:X U}{Y:Sg}(i:Nat)(e:TypeId)(sz:Nat)(g:0<sz)(j:n0<=Y.nx)(f:nth tm i=some .J):Gh n0 tm Y (tm.set i<|.vl Y.nx 0 0 0) (bE Y<|.vec [] e sz 0):=fun F x n l p c b=>by
 subst l;have a:=qo8 p e sz g;rw[lW]at f;have⟨v,k,d⟩:=b.get f;simp[aF]at d;subst d;refine⟨⟨nI x.I x.Y.nx none,bE x.Y<|.vec [] e sz 0,x.s⟩,fun m w c=>bS.refl c,rfl,a.h,a.fr F c,?_,a.mo.ke.le j⟩;have:=(a.mo.ke.E b.K3 b).set i (qil (x:=x) (e:=e) (sz:=sz) (o:=none) aZ)
 rwa [qyy k]at this
def bS.freeze{m:Nm}{s:S}{w:Ep}(h:gZ m s w){i:Nat}{l:X Value}{e y r:Nat}(x:lk s.h i=some (.inl (l,e,y)))(L:y=0/\r=0\/∃z,y=z+2/\r=z+1):
  bS m s w m ⟨up s.h i<|.inl (l,r,1),s.nx⟩ w:=by
 have g:∀j c,lk (up s.h i<|.inl (l,r,1)) j=some c->∃d,lk s.h j=some d/\(gQ c=true->gQ d=true)/\(j≠i->c=d):=fun j c a=>by simp[FO]at a;by_cases q:i=j;subst q;simp[It,x,zM,zA]at a;subst a;exact⟨_,x,fun h=>by simp[gQ]at h,fun h=>absurd rfl h⟩;simp[q,MF]at a;exact⟨c,a,id,fun _=>rfl⟩
 refine⟨aP.refl _ _,zF _,fun C J=>?_,?_,fun _ _ _=>rfl,zF _,rfl,rfl,rfl⟩;have t:=h C J;refine⟨fun j c a=>?_,fun j k c d a K E B=>?_,fun j c a=>?_⟩;by_cases q:j=i;subst q;simp[FO,It,x,zM,zA]at a;subst a;have N:BR C j l e w y:=t.ok j _ x;obtain⟨rfl,rfl⟩|⟨z,rfl,rfl⟩:=L;have⟨I,f⟩:=N;exact⟨_,_,_,f,fun k v u=>by simp[I,nE,u],fun n A=>absurd A aZ⟩;have⟨M,D,f,o,p⟩:=N;refine⟨_,_,_,f,fun k v u=>?_,fun n A=>?_⟩;have F:k<l.length:=(zG.1 u).1;simp[xi,zT,<-o];rw[mu af,qi,mc<|by simpa using F];simp[nE,u];have:n=z:=(Nat.succ.inj A).symm;subst this;exact le_of_add_right_le<|pe p;have⟨d,f,_,p⟩:=g j c a;rw[p q];exact t.ok j d f;have⟨G,f,o,_⟩:=g j c a;have⟨H,p,_,_⟩:=g k d K;exact t.inj j k G H f p E<|o B;have⟨d,f,_⟩:=g j c a;exact t.bd j d f;rintro b ⟨j,c,a,B,rfl⟩;have⟨d,f,o,_⟩:=g j c a;exact .inl ⟨j,d,f,o B,rfl⟩
def bR(a:Nat):Nat->X U->X (X U)
 |0,_=>[]|n+1,l=>l.take a::bR a n (l.drop a)
def qkd(b n:Nat)(l:X U):(bR b n l).length=n:=by induction n generalizing l with|zero=>rfl|succ n a=>simp[bR,a]
def qke{x:Cx}{b:Nat}:∀(n:Nat){l:X U}{c:X Value},cJ x l c->I8 l=true->n*b<=l.length->iS x b (bR b n l) c
 |0,l,c,h,d,e=>by simp[bR,iS]
 |n+1,l,c,h,d,e=>by rw[eM]at e;simp only[bR,iS];refine⟨by simp;omega,V6 d _,?_,qke n (h.drop b) (HU d _) (by simp;omega)⟩;rw[JL]at h ⊢;intro i u a;rw[jz]at a;split at a;exact h i u a;cases a
mutual
def fz(K:Nat)(b:B)(d:Nat):U->U
 |.sl k off n c=>cond (Nat.beq k K) (match b with
  |.row l _=>if off+n*d<=l.length then .O false (bR d n<|l.drop off)else .sl k off n c|_=>.sl k off n c) (.sl k off n c)
 |.vl k st off n=>cond (Nat.beq k K) (match b with
  |.vec l _ e g=>if g=st/\(off+n)*e<=l.length then .O false (bR e n<|l.drop<|off*e)else .vl k st off n|_=>.vl k st off n) (.vl k st off n)
 |.ptr k st off=>cond (Nat.beq k K) (match b with
  |.row l _=>if st=0 then .b4 (l.drop off)else .ptr k st off|_=>.ptr k st off) (.ptr k st off)
 |.agg l=>.agg (iO K b d l)|.a7 l=>.a7 (iO K b d l)
 |.fn f a c=>.fn f (iO K b d a) (iO K b d c)|u=>u
def iO(K:Nat)(b:B)(a:Nat):X U->X U
 |[]=>[]|u::l=>fz K b a u::iO K b a l
end
def ek(K:Nat)(b:B)(a:Nat):B->B
 |.row l e=>.row (iO K b a l) e|.vec l e s st=>.vec (iO K b a l) e s st
 |.map d c=>.map (d.map fun e=>{ e with val:=fz K b a e.val }) c
def dd(K:Nat)(b:B)(sz:Nat):X (Nat×B)->X (Nat×B)
 |[]=>[]|(k,c)::h=>cond (Nat.beq k K) (dd K b sz h) ((k,ek K b sz c)::dd K b sz h)
def D0(K:Nat)(b:B)(f:Nat)(h:X (Nat×B))(k:Nat):gt (dd K b f h) k=if k=K then none else(gt h k).map (ek K b f):=by induction h with|nil=>simp[dd,gt]|cons p h e=>have⟨j,c⟩:=p;simp[dd,beq_eq];by_cases d:j=K;subst d;simp[yC,zC,e,aR];by_cases a:k=j;simp[a];simp[a,WV a];simp[d,yB,zD,aR,e];by_cases a:j=k;subst a;simp[d];simp[a]
def In(K:Nat)(b:B)(a:Nat)(c:B):(ek K b a c).st=c.st:=by cases c<;>rfl
def Il(K:Nat)(b:B)(a:Nat)(u:U)(h:U6 u=true):U6 (fz K b a u)=true:=by
 cases u with
 |sl k off n c=>
  simp[fz];obtain _|_:=Nat.beq k K;rfl;simp[zC];cases b with
  |row l e=>simp only;split<;>rfl|_=>rfl
 |vl k st off n=>
  simp[fz];obtain _|_:=Nat.beq k K;rfl;simp[zC];cases b with
  |vec l e s st=>simp only;split<;>rfl|_=>rfl
 |ptr k st off=>
  simp[fz];obtain _|_:=Nat.beq k K;rfl;simp[zC];cases b with
  |row l e=>simp only;split<;>rfl|_=>rfl
 |agg l=>simp[U6]at h|a7 l=>simp[U6]at h
 |J9=>simp[U6]at h|_=>simp[fz];first |exact h |rfl
def bh(K:Nat)(b:B)(a:Nat):∀l:X U,I8 l=true->I8 (iO K b a l)=true
 |[],_=>rfl|u::l,h=>by simp only[I8]at h;have⟨c,d⟩:=O6 h;simp[iO,I8,Il K b a u c,bh K b a l d]
def Cb(K:Nat)(b:B)(a:Nat):∀l:X U,(iO K b a l).length=l.length
 |[]=>rfl|u::l=>by simp[iO,Cb K b a l]
section
variable{x y:Cx}{K:Nat}{b:B}{sz:Nat}(d:gt x.Y.h K=some b)(g:oR x K b)(j:Mo x.Y.nx x y)
 (eL:∀i l e md,x.I K=some i->lk x.s.h i=some (.inl (l,e,md))->(md=0/\lk y.s.h i=some (.inl (l,0,1)))\/∃s,md=s+2/\lk y.s.h i=some (.inl (l,s+1,1)))
include d g j eL
mutual
def zaa:(u:U)->(v:Value)->aF x u v->aF y (fz K b sz u) v
 |.sl k off n c,v,h=>by
  have S0:=j.ke _ _ (aF.K3 _ _ h) h;simp[fz,beq_eq];by_cases z:k=K;subst z;simp[yC,zC];cases b with
  |row l e=>simp only;split;rename_i A;obtain⟨i,I,rfl,V,S⟩:=Mn (x:=x) (by simp[live,d,B.st]) h;have⟨L,Z,m,w,C,r⟩:=g;rw[I]at w;cases w;have D:cJ y l m:=(j.ke.E r.K3 r).1;obtain⟨_,J⟩|⟨s,P,_⟩:=eL i m e 0 I C;simp only[aF,qkd];refine .inr ⟨i,off,c,rfl,(fun Y=>by cases Y),?_⟩;by_cases W:n=0;exact .inl (Zs<|by rw[qkd,W]);exact .inr ⟨m,0,sz,J,qke n (D.drop off) (HU L _) (by simp;omega),.inl ⟨V,S⟩⟩;omega;exact S0
  |_=>exact S0
  simp[z,yB,zD];exact S0
 |.vl k st off n,v,h=>by
  have S0:=j.ke _ _ (aF.K3 _ _ h) h;simp[fz,beq_eq];by_cases z:k=K;subst z;simp[yC,zC];cases b with
  |vec l e iB bL=>
   simp only;split;rename_i A;obtain⟨rfl,A⟩:=A;have⟨l0,e0,s0,g1,g2⟩:=Mm (x:=x) (by simp[live,d,B.st]) h;have:=d.symm.trans g1;cases this;have⟨L,k2,H⟩:=g;obtain⟨rfl,N⟩|⟨i,m,w,C,r⟩:=H;rw[N]at g2;obtain⟨rfl,rfl,o,rfl,X⟩:=g2;simp only[aF,bR];obtain _|a:=o;exact .inl ⟨trivial,.inl rfl⟩;exact .inr ⟨a.block,a.off,0,by have⟨q1,q2,q3⟩:=a;have:=X _ rfl;simp only at this;subst this;rfl,by simp,.inl trivial⟩;rw[w]at g2;have D:cJ y l m:=(j.ke.E r.K3 r).1;obtain⟨h0,_⟩|⟨s,P,J⟩:=eL i m e _ w C;omega;have:s=iB:=by omega
   subst this;simp only[aF,qkd];obtain⟨_,rfl,a,c,rfl,O⟩|rfl:=g2;exact .inr ⟨a.block,a.off,c,by obtain⟨q1,q2,q3⟩:=a;simp only at O;subst O;rfl,by simp,.inl rfl⟩;refine .inr ⟨i,off*s,dC+off,rfl,by simp,?_⟩;rw[dX]at A;exact .inr ⟨m,s+1,s,J,qke n (D.drop _) (HU L _) (by simp;omega),.inr ⟨by omega,rfl,k2,by simp[dA],by rw[<-r.2];exact A⟩⟩;exact S0
  |_=>exact S0
  simp[z,yB,zD];exact S0
 |.ptr k st off,v,h=>by
  have S0:=j.ke _ _ (aF.K3 _ _ h) h;simp[fz,beq_eq];by_cases z:k=K;subst z;simp[yC,zC];cases b with
  |row l e=>simp only;split;rename_i T;subst T;obtain⟨i,I,rfl⟩:=Cg (x:=x) (by simp[live,d,B.st]) h;have⟨L,Z,m,w,C,r⟩:=g;rw[I]at w;cases w;have D:cJ y l m:=(j.ke.E r.K3 r).1;obtain⟨_,J⟩|⟨s,P,_⟩:=eL i m e 0 I C;simp only[aF];exact⟨i,off,m,0,rfl,J,D.drop off,HU L _⟩;omega;exact S0
  |_=>exact S0
  simp[z,yB,zD];exact S0
 |.agg l,v,h=>by simp[aF,fz]at*;obtain⟨M,rfl,F,G,H⟩:=h;exact⟨M,rfl,Mq l M F,by rw[Cb];exact G,bh K b sz l H⟩
 |.a7 l,v,h=>by simp[aF,fz]at*;obtain⟨M,rfl,F,G⟩:=h;exact⟨M,rfl,Mq l M F,by rw[Cb];exact G⟩
 |.fn f p q,v,h=>by simp[aF,fz]at*;obtain⟨Q,R,rfl,F,G,H,N⟩:=h;exact⟨Q,R,rfl,Mq p Q F,by rw[Cb];exact G,Mq q R H,by rw[Cb];exact N⟩
 |.J9,v,h=>by simp[fz,aF]
 |.bool _,v,h=>by simpa[fz,aF]using h
 |.int _ _,v,h=>by simpa[fz,aF]using h
 |.str _,v,h=>by simpa[fz,aF]using h
 |.b6,v,h=>by simpa[fz,aF]using h
 |.J,v,h=>by simpa[fz,aF]using h
 |.e6,v,h=>by simpa[fz,aF]using h
 |.e9,v,h=>by simpa[fz,aF]using h
 |.k9,v,h=>by simpa[fz,aF]using h
 |.map k,v,h=>by simp[fz];exact j.ke _ _ (aF.K3 _ _ h) h
 |.b4 l,v,h=>by simp[fz];exact j.ke _ _ (aF.K3 _ _ h) h
 |.O t l,v,h=>by simp[fz];exact j.ke _ _ (aF.K3 _ _ h) h
def Mq:(l:X U)->(a:X Value)->cJ x l a->cJ y (iO K b sz l) a
 |[],a,h=>by have _:=d;have _:=g;have _:=j;have _:=eL;simp[iO,cJ]
 |u::l,[],h=>by simp[cJ]at h
 |u::l,v::a,h=>by simp[cJ,iO]at*;exact⟨zaa u v h.1,Mq l a h.2⟩
end
end
def Gh.freeze{n0:Nat}{tm:X U}{Y:Sg}{K:Nat}{b:B}(sz:Nat)(M:gt Y.h K=some b)(hb:∀H O,b≠.map H O):Gh n0 tm Y (iO K b sz tm) ⟨dd K b sz Y.h,Y.nx⟩:=fun F x tv hx hr L C=>by
 subst hx;have⟨hK,J⟩:=hr.ok K b M;have hs:∃a:S,(∀m w,gZ m x.s w->bS m x.s w m a w)/\(∀i c,lk x.s.h i=some c->x.I K≠some i->lk a.h i=some c)/\(∀i c,lk a.h i=some c->i<a.nx)/\
   (∀i l e n,x.I K=some i->lk x.s.h i=some (.inl (l,e,n))->(n=0/\lk a.h i=some (.inl (l,0,1)))\/∃s,n=s+2/\lk a.h i=some (.inl (l,s+1,1))):=by
  have act:∀i l e n f,x.I K=some i->lk x.s.h i=some (.inl (l,e,n))->(n=0/\f=0\/∃sz,n=sz+2/\f=sz+1)->∃a:S,(∀m w,gZ m x.s w->bS m x.s w m a w)/\(∀i c,lk x.s.h i=some c->x.I K≠some i->lk a.h i=some c)/\(∀i c,lk a.h i=some c->i<a.nx)/\
   (∀i l e n,x.I K=some i->lk x.s.h i=some (.inl (l,e,n))->(n=0/\lk a.h i=some (.inl (l,0,1)))\/∃s,n=s+2/\lk a.h i=some (.inl (l,s+1,1))):=by
   intro i l e n f N r qZ;refine⟨⟨up x.s.h i<|.inl (l,f,1),x.s.nx⟩,fun m w L=>bS.freeze L r qZ,fun j c g G=>?_,fun j c g=>?_,fun j t e' md' D tR=>?_⟩;have:i≠j:=fun h=>G (by rw[N,h]);simp[FO,this,g];simp[FO]at g;split at g;rename_i h;subst h;exact hr.bd _ _ r;exact hr.bd j c g;rw[N]at D;cases D;rw[r]at tR;cases tR;obtain⟨rfl,rfl⟩|⟨s,rfl,rfl⟩:=qZ
   exact .inl ⟨rfl,by simp[FO,r]⟩;exact .inr ⟨s,rfl,by simp[FO,r]⟩
  cases b with
  |map H O=>exact absurd rfl (hb H O)|row l e=>have⟨_,i,t,f,o,_⟩:=J;exact act i t e 0 0 f o (.inl ⟨rfl,rfl⟩)
  |vec l e s st=>have⟨_,_,z⟩:=J;obtain⟨_,Z⟩|⟨i,t,f,o,_⟩:=z;exact⟨x.s,fun m w L=>bS.refl L,fun i c g _=>g,hr.bd,fun i l e n N=>by rw[Z]at N;cases N⟩;exact act i t e (s+2) (s+1) f o (.inr ⟨s,rfl,rfl⟩)
 have⟨a,a1,E,a3,a4⟩:=hs;have sub:∀{k c},gt (dd K b sz x.Y.h) k=some c->k≠K/\∃d,gt x.Y.h k=some d/\c=ek K b sz d:=fun{k c} h=>by rw[D0]at h;split at h;cases h;rename_i hk;rcases Q:gt x.Y.h k with _|d;simp[Q]at h;simp[Q]at h;exact⟨hk,d,rfl,h.symm⟩
 have P:Mo x.Y.nx x ⟨x.I,⟨dd K b sz x.Y.h,x.Y.nx⟩,a⟩:=by refine⟨fun k _ q=>⟨q,fun c g=>?_⟩,fun i row e r=>E i _ r fun h=>J.pH h r⟩;obtain⟨_,d,p,rfl⟩:=sub g;refine⟨d,p,by rw[In];exact zF _,fun _=>⟨rfl,fun l e s st h=>?_⟩⟩;subst h;exact⟨_,rfl⟩
 have hfz:=fun u v h=>zaa (y:=⟨x.I,⟨dd K b sz x.Y.h,x.Y.nx⟩,a⟩) (sz:=sz) M J P a4 u v h;have T:∀{l:X U}{R:X Value},bD x l R->bD ⟨x.I,⟨dd K b sz x.Y.h,x.Y.nx⟩,a⟩ (iO K b sz l) R:=fun{l R} h=>⟨Mq M J P a4 l R h.1,by rw[Cb];exact h.2⟩;refine⟨⟨x.I,⟨dd K b sz x.Y.h,x.Y.nx⟩,a⟩,a1,rfl,⟨fun k c g=>?_,fun k k' c c' i p q=>?_,a3⟩,fun i c g=>?_,T C,fun u v _ h=>P.ke u v (aF.K3 _ _ h) h⟩;obtain⟨hk,d,p,rfl⟩:=sub g;have⟨q,z⟩:=hr.ok k d p;refine⟨q,?_⟩;have G:∀i,x.I k=some i->x.I K≠some i:=fun i h h'=>hk<|hr.inj k K d b i p M h h';cases d with
 |row l e=>have⟨k1,i,t,f,o,A⟩:=z;exact⟨bh _ _ _ _ k1,i,t,f,E i _ o<|G i f,T A⟩
 |vec l e s st=>have⟨k1,k2,z⟩:=z;refine⟨bh _ _ _ _ k1,k2,?_⟩;obtain⟨rfl,Z⟩|⟨i,t,f,o,A⟩:=z;exact .inl ⟨rfl,Z⟩;exact .inr ⟨i,t,f,E i _ o<|G i f,T A⟩
 |map H O=>have⟨i,W,f,o,A⟩:=z;refine⟨i,W,f,E i _ o<|G i f,by simp[A.1],fun j e C=>?_⟩;rw[me]at C;rcases D:H[j]? with _|e0;simp[D]at C;simp[D]at C;subst C;have⟨v,q1,q2,q3,q4⟩:=A.2 j e0 D;exact⟨v,q1,P.ke _ _ (aF.K3 _ _ q2) q2,hfz _ _ q3,q4⟩
 have⟨_,d,g1,_⟩:=sub p;have⟨_,V,g2,_⟩:=sub q;exact hr.inj k k' d V i g1 g2;have⟨p,q⟩:=L i c g;refine⟨E i c p<|q K b M,fun k d Q=>?_⟩;have⟨_,V,g1,_⟩:=sub Q;exact q k V g1
end Go.Vx
