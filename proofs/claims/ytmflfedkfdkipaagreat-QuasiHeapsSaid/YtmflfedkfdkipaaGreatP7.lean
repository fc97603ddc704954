import Derived.CallsIn
import Derived.OrdersIn
import Derived.Test.YtmflfedkfdkipaaGreatP6
set_option linter.all false
open List Go.IntKind
open Nat hiding beq_eq
namespace Go.Vx
open Go Go.Rx
def eH(a:X U)(d:A Tmp)(u:U):X U:=match d with
 |none=>a|some d=>a.set d u
variable{x:Cx}{tm:X U}
def NA{a:X I}(h:aZ x tm a){u:U}{v:I}(b:aD x u v)(d:A Tmp):aZ x (eH tm d u) (DD a d v):=by obtain _|d:=d;exact h;exact h.set d b
structure St(F:Nat->m9->Prop)(x:Cx)(tm:X U)(tv:X I)(m:Nm)(w:Jb)(a:Act):Prop where
 h:jB x
 fr:Fr F x
 e:aZ x tm tv
 fits:fW m x.s w
 act:wQ m x.s.nx tv a
def aT(P:Ib)(f:FuncId)(args:X U)(Y:Sg)(Q:U->Sg->Prop):Prop :=
 ∀F x vs m w a,x.Y=Y->jB x->Fr F x->aZ x args vs->fW m x.s w->nB m x.s.nx vs a->
  Calls P f a.toArray w fun e b=>∃y c u v cv,e=.returned cv/\Q u y.Y/\bJ m x.s w c y.s b/\iC c y.s.nx v cv/\jB y/\Fr F y/\aD y u v/\Ke x.Y.nx x y/\x.Y.nx<=y.Y.nx
def Mo.nx{x y:Cx}(h:Mo x.Y.nx x y):x.Y.nx<=y.Y.nx:=by cases hn:x.Y.nx with|zero=>omega|succ n=>have:=(h.ref n ag ag).1;omega
def VF(P:Ib):Lo P nc:=fun f args s v a h=>by simp[nc]at h
def FD(a:Act)(d:A Tmp)(v:I):(a.put d v).defers=a.defers:=by cases d<;>rfl
section
variable{P:Ib}{T:Tb}(g:j0 P T){F:Nat->m9->Prop}{x:Cx}{tm:X U}{j:X I}{m:Nm}{w:Jb}{a:Act}
include g
variable{next:Act->Jb->Prop}{Q:Exit->Act->Jb->Prop}
def St.op(st:St F x tm j m w a)(o:Oper){u:U}{k:Sg}(h:bH T x.Y tm o.op=some (u,k))
  (r:∀y l d b i,y.Y=k->St F y (eH tm o.dst u) l d b i->bJ m x.s w d y.s b->Ke x.Y.nx x y->x.Y.nx<=y.Y.nx->i.defers=a.defers->next i b):o.wp P a w next Q:=by obtain⟨v,y,n,p,q,c⟩:=Df st.h st.e h;refine VD g (VF P) st.fits st.act o n fun d b z f t=>?_;exact r y (DD j o.dst v) d b _ p ⟨c.h,c.fr F st.fr,NA (c.mo.ke.E st.e.L5 st.e) q _,f.fits,(st.act.ext f.agree f.nx).put t o.dst⟩ f c.mo.ke c.mo.nx (FD _ _ _)
def St.call(st:St F x tm j m w a)(o:Oper){f:FuncId}{args:X U}(h:kM T tm o.op=some (f,args)){R:U->Sg->Prop}(G:aT P f args x.Y R)
  (C:∀y u p d b k,R u y.Y->St F y (eH tm o.dst u) p d b k->bJ m x.s w d y.s b->Ke x.Y.nx x y->x.Y.nx<=y.Y.nx->k.defers=a.defers->next k b):o.wp P a w next Q:=by obtain⟨H,t,z⟩:=qve st.e h;obtain⟨c,g1,g2⟩:=qr8 g st.act o w t;unfold Oper.wp;rw[g1];show Calls P f _ w _;refine(G F x H m w c rfl st.h st.fr z st.fits g2).mono ?_;rintro e b ⟨y,d,u,v,J,rfl,A,i,D,B,q,n,l,r⟩;exact C y u (DD j o.dst v) d b _ A ⟨B,q,NA (l.E st.e.L5 st.e) n _,i.fits,(st.act.ext i.agree i.nx).put D o.dst⟩ i l r (FD _ _ _)
def St.kQ(st:St F x tm j m w a)(o:Oper){t e M:TypeId}{A B:Qo}{b:Rl}{l:X (X U)}(E:o.op=.binOp .eql t A B M)(q:T.G4 t=some (.slice e))(G:c5 tm A=some (.O b l))(H:c5 tm B=some .J)
  (D:∀(z:Rl) y cO f d n,(z=true->l=[])->y.Y=x.Y->St F y (eH tm o.dst<|.bool z) cO f d n->bJ m x.s w f y.s d->Ke x.Y.nx x y->x.Y.nx<=y.Y.nx->n.defers=a.defers->next n d):o.wp P a w next Q:=by
 obtain⟨O,ex,u⟩:=iJ st.e G;obtain⟨R,p,v⟩:=iJ st.e H;simp only[aD]at u v;subst v;have key:∃z:Rl,(z=true->l=[])/\BD T nc j x.s o.op=some (.bool z,x.s):=by rw[E];obtain⟨C,rfl |⟨r,rfl⟩⟩|⟨i,off,c,rfl,_⟩:=u;exact⟨true,fun _=>C,by simp[BD,jR,ex,p,u6,SD,HC,q]⟩;exact⟨false,by simp,by simp[BD,jR,ex,p,u6,SD,HC,q]⟩;exact⟨false,by simp,by simp[BD,jR,ex,p,u6,SD,HC,q]⟩
 obtain⟨z,J,L⟩:=key;refine VD g (VF P) st.fits st.act o L fun f d N k K=>?_;exact D z x (DD j o.dst<|.bool z) f d _ J rfl ⟨st.h,st.fr,NA st.e (by simp[aD]) _,k.fits,(st.act.ext k.agree k.nx).put K o.dst⟩ k (Ke.refl _ _) (zF _) (FD _ _ _)
omit g in
def St.skip(st:St F x tm j m w a)(d:A Tmp):St F x (eH tm d (.a7 [])) (DD j d undef) m w (a.put d undef):=
 ⟨st.h,st.fr,NA st.e (by simp only[aD];exact⟨[],rfl,by simp[c7],rfl⟩) _,st.fits,st.act.put (PT fun _=>by simp[undef,G0,aF]) d⟩
end
def c9(c:X Oper)(tm:X U)(o:Oper):A Rl :=
 match o.guard with
 |none=>some true|some (j,a)=>match CC c j with
  |none=>some false|some d=>match nth tm d with
   |some (.bool b)=>some (b==a)|some (.a7 _)=>some false
   |_=>none
def B9{f:X Oper}{m:X I}(q:aZ x tm m){o:Oper}{b:Rl}(h:c9 f tm o=some b):So f m o=b:=by
 unfold c9 at h;unfold So;rcases k:o.guard with _|g;simp[k]at h;simp[h];obtain⟨j,n⟩:=g;simp only[k]at h ⊢;rcases i:CC f j with _|d;simp[i]at h;simp[h];simp only[i,jT]at h ⊢;rcases a:tm[d]? with _|u;simp[a]at h;obtain⟨v,p,e⟩:=q.get a;rw[p];cases u with
 |bool c=>simp only[a,zA]at h;simp only[aD]at e;subst e;simp[h]|a7 l=>simp only[a,zA]at h;simp only[aD]at e;obtain⟨r,rfl,_⟩:=e;simp[h]
 |_=>simp[a]at h
def oQ(a:A Nat):Fence:={ Fence.wide with round:=a }
variable{ro:A Nat}{n:Nat}{P:Ib}{w:Jb}
def Iw{f:FuncId}{args:Ie I}{R:Ending->Jb->Prop}(h:Calls P f args w R):CallsIn (oQ ro) n P f args w R:=(callsIn_wide (n:=n)).2 h
def Rm{row:String}{args:Ie I}{R:I->Jb->Prop}(h:Rows P row args w R):RowsIn (oQ ro) n P row args w R:=fun c a _=>by
 obtain⟨v,b,r,s⟩:=h c a;exact⟨v,b,r,(stepsIn_wide (P:=P)).2 s⟩
def qzv:(oQ ro).depth.isSome=true->1<=n:=fun h=>by simp[oQ,Fence.wide]at h
def v7{o:Oper}{a:Act}{next:Act->Jb->Prop}{Q:Exit->Act->Jb->Prop}(b:∀c,o.op≠.defer c)(h:o.wp P a w next Q):o.wpIn (oQ ro) n P a w next Q:=by refine⟨fun _ _=>trivial,?_⟩;have e:o.semAt (oQ ro).round a.eval=execOp a.eval o:=Oper.semAt_eq _ _ _ b;rw[e];revert h;unfold Oper.wp;generalize (execOp a.eval o).run P w=r;intro h;unfold Oper.upon at h;split at h;exact h;exact h;exact h;exact⟨qzv,Iw h⟩;exact⟨qzv,Rm h⟩;exact h;exact h.elim
def P8{T:Tb}{Y:Sg}{op:Op}{r:U×Sg}(h:bH T Y tm op=some r):∀c,op≠.defer c:=by rintro c rfl;simp[bH,iQ,qR,qO]at h
def Tp{T:Tb}{op:Op}{r:FuncId×X U}(h:kM T tm op=some r):∀c,op≠.defer c:=by rintro c rfl;simp[kM]at h
structure PG where
 prog:Ib
 nb:Nat
 G:Cx->Nm->Jb->Prop
 ro:A Nat->Prop
 w4:Rl
 st:∀{x y:Cx}{m m':Nm}{w w':Jb},G x m w->fW m x.s w->bJ m x.s w m' y.s w'->Ke nb x y->G y m' w'
abbrev PG.of(P:Ib):PG:=⟨P,0,fun _ _ _=>True,fun _=>True,false,fun _ _ _ _=>trivial⟩
structure SN(C:PG)(n0:Nat)(x:Cx)(m:Nm)(w:Jb):Prop where
 nb:C.nb<=n0
 g:C.G x m w
variable{m:Nm}{d:Nm}{w':Jb}
def SN.kE{C:PG}{a:Nat}{y:Cx}(h:SN C a x m w)(c:fW m x.s w)(b:bJ m x.s w d y.s w')(e:Ke a x y):SN C a y d w':=⟨h.nb,C.st h.g c b<|e.le h.nb⟩
def li(a:Nat)(w:Jb)(c:X Deferred):Prop:=a<=w.heap.size/\∃bs:X Nat,bs.Nodup/\c=bs.map (fun b=>{ target:=.collected b,args:=#[] })/\∀b∈bs,a<=b/\w.heap[b]? = some (.deferred<|some [])
variable{s:S}
def z6a(r:fW m s w){b:Nat}{o:Obj}(h:w.heap[b]? = some o)(g:∀c e f,o≠.cells c e f)(j:∀q c,o≠.map q c):¬ SU m s b:=by
 rintro⟨i,c,k,p,rfl⟩;have:=r.fits.ok i c k;obtain⟨l,e,t⟩|⟨v,u⟩:=c;simp only[wX]at this
 match t,this with
 |0,a=>simp only[wW]at a;rw[a.2]at h;exact g _ _ _ (Option.some.inj h).symm|1,a=>simp[iK]at p
 |n+2,a=>simp only[wW]at a;obtain⟨_,_,a,_⟩:=a;rw[a]at h;exact g _ _ _ (Option.some.inj h).symm
 simp only[wX]at this;rw[this]at h;exact j _ _ (Option.some.inj h).symm
def zam{k:S}(i:fW m s w)(g:bJ m s w d k w'){b:Nat}{o:Obj}(h:w.heap[b]? = some o)(j:∀c e f,o≠.cells c e f)(a:∀q c,o≠.map q c):w'.heap[b]? = some o:=by rw[g.same b (Array.getElem?_eq_some_iff.1 h).1 (z6a i h j a)];exact h
def li.kE{a:Nat}{o:S}{c:X Deferred}(h:li a w c)(l:fW m s w)(f:bJ m s w d o w'):li a w' c:=by obtain⟨i,bs,j,k,e⟩:=h;exact⟨eb i f.size,bs,j,k,fun b g=>⟨(e b g).1,zam l f (e b g).2 ca ca⟩⟩
structure DR(C:PG)(b0:Nat)(ds:X Deferred)(w':Jb)(ds':X Deferred):Prop where
 eq:C.w4=false->ds'=ds
 ok:C.w4=true->li b0 w' ds'
def DR.trans{C:PG}{b:Nat}{e c a:X Deferred}{j i:Jb}(h:DR C b e j c)(g:DR C b c i a):DR C b e i a:=⟨fun f=>(g.eq f).trans (h.eq f),g.ok⟩
def DR.here{C:PG}{b:Nat}{e a:X Deferred}{c:Jb}(h:DR C b e c a):DR C b a c a:=⟨fun _=>rfl,h.ok⟩
def DR.kE{C:PG}{b:Nat}{c a:X Deferred}{m:Nm}{s:S}{w:Jb}{d:Nm}{i:S}{w':Jb}(h:DR C b c w a)(f:fW m s w)(e:bJ m s w d i w'):DR C b c w' a:=⟨h.eq,fun g=>(h.ok g).kE f e⟩
def fI(C:PG)(Y:Sg)(tm:X U)(o:Oper)(R:U->Sg->Prop):Prop :=
 ∀(F:Nat->m9->Prop)(x:Cx)(g:X I)(m:Nm)(w:Jb)(a:Act)(next:Act->Jb->Prop)(Q:Exit->Act->Jb->Prop),x.Y=Y->St F x tm g m w a->SN C x.Y.nx x m w-> (∀u y f e b c,R u y.Y->St F y (eH tm o.dst u) f e b c->bJ m x.s w e y.s b->Ke x.Y.nx x y->x.Y.nx<=y.Y.nx->c.defers=a.defers->next c b)->∀ro,C.ro ro->o.wpIn (oQ ro) 0 C.prog a w next Q
def RU(C:PG)(T:Tb)(a:X Oper):X Oper->X U->Sg->(X U->Sg->Prop)->Prop
 |[],tm,Y,K=>K tm Y|o::r,tm,Y,K=>(c9 a tm o=some true/\∃u c,bH T Y tm o.op=some (u,c)/\RU C T a r (eH tm o.dst u) c K)\/ (c9 a tm o=some true/\∃f args R,kM T tm o.op=some (f,args)/\aT C.prog f args Y R/\∀u c,R u c->RU C T a r (eH tm o.dst u) c K)\/ (c9 a tm o=some false/\RU C T a r (eH tm o.dst<|.a7 []) Y K)\/ (c9 a tm o=some true/\∃t g h i e b l,o.op=.binOp .eql t g h i/\T.G4 t=some (.slice e)/\c5 tm g=some (.O b l)/\c5 tm h=some .J/\∀z:Rl,(z=true->l=[])->RU C T a r (eH tm o.dst<|.bool z) Y K)\/ (c9 a tm o=some true/\∃R,fI C Y tm o R/\∀u c,R u c->RU C T a r (eH tm o.dst u) c K)
def Q_(C:PG)(c:Nat)(F:Nat->m9->Prop)(x:Cx)(m:Nm)(w:Jb)(h:X Deferred)(f:Nat)(Q:Exit->X U->Sg->Prop):Exit->Act->Jb->Prop:=fun e b w'=>
 ∃y a g d,Q e a y.Y/\St F y a g d w' b/\bJ m x.s w d y.s w'/\Ke c x y/\c<=y.Y.nx/\DR C f h w' b.defers
def I6(C:PG)(b:Nat)(c:Code)(tm:X U)(Y:Sg)(Q:Exit->X U->Sg->Prop):Prop :=
 b<=Y.nx->∀F x f m w a e,x.Y=Y->St F x tm f m w a->SN C b x m w->DR C e a.defers w a.defers->∀ro,C.ro ro->c.wpIn (oQ ro) 0 C.prog (Q_ C b F x m w a.defers e Q) a w
section
variable{C:PG}{n0:Nat}{Q:Exit->X U->Sg->Prop}{tm:X U}{Y:Sg}
def wS(K:X U->Sg->Prop)(Q:Exit->X U->Sg->Prop):Exit->X U->Sg->Prop
 |.normal,tm,s=>K tm s|e,tm,s=>Q e tm s
def I6.seq{p q:Code}(h:I6 C n0 p tm Y (wS (fun tm Y=>I6 C n0 q tm Y Q) Q)):I6 C n0 (.seq p q) tm Y Q:=fun L F x N m w a k M st v K ro o=>by
 refine wpIn_seq<|wpIn_mono (h L F x N m w a k M st v K ro o) ?_;rintro e B w' ⟨y,j,l,d,r,t,c,f,u,g⟩;cases e with
 |normal=>refine wpIn_mono (r u F y l d w' B k rfl t (v.kE st.fits c f) g.here ro o) ?_;rintro e D O ⟨z,E,b,i,g1,g2,G,H,I,J⟩;exact⟨z,E,b,i,g1,g2,c.trans G,f.trans H,I,g.trans J⟩
 |_=>exact⟨y,j,l,d,r,t,c,f,u,g⟩
def I6.skip(h:Q .normal tm Y):I6 C n0 .skip tm Y Q:=fun e F x f m w a g b st j c ro i=>wpIn_skip ⟨x,tm,f,m,b ▸ h,st,bJ.refl st.fits,Ke.refl _ _,b ▸ e,c⟩
def I6.ret(h:Q .ret tm Y):I6 C n0 .ret tm Y Q:=fun e F x f m w a g b st j c ro i=>wpIn_ret ⟨x,tm,f,m,b ▸ h,st,bJ.refl st.fits,Ke.refl _ _,b ▸ e,c⟩
def I6.exit{id:Nat}(h:Q (.exit id) tm Y):I6 C n0 (.exit id) tm Y Q:=fun e F x f m w a g b st j c ro i=>wpIn_exit ⟨x,tm,f,m,b ▸ h,st,bJ.refl st.fits,Ke.refl _ _,b ▸ e,c⟩
def I6.cond{c:Qo}{p q:Code}{t:Rl}(z:c5 tm c=some (.bool t))(u:t=true->I6 C n0 p tm Y Q)(y:t=false->I6 C n0 q tm Y Q):I6 C n0 (.cond c p q) tm Y Q:=fun k F x o m w a f l st i j ro h=>by
 obtain⟨v,r,g⟩:=iJ st.e z;simp only[aD]at g;subst g;have b:=(st.act.F8 r).at;simp only[G0]at b;obtain _|_:=t;exact wpIn_cond_false b.symm<|y rfl k F x o m w a f l st i j ro h;exact wpIn_cond_true b.symm (u rfl k F x o m w a f l st i j ro h)
def v8(id:Nat)(Q:Exit->X U->Sg->Prop):Exit->X U->Sg->Prop
 |.exit a,tm,s=>if a=id then Q .normal tm s else Q (.exit a) tm s|e,tm,s=>Q e tm s
def eX{id:Nat}{c:Code}(h:I6 C n0 c tm Y (v8 id Q)):I6 C n0 (.block id c) tm Y Q:=fun r F x u m w a l t st p q ro o=>by
 refine wpIn_block<|wpIn_mono (h r F x u m w a l t st p q ro o) ?_;rintro e v w' ⟨y,b,g,d,f,i⟩;cases e with
 |exit j=>simp only[Exit.inBlock];simp only[v8]at f;by_cases k:j=id;simp only[k,It]at f ⊢;exact⟨y,b,g,d,f,i⟩;simp only[k,LX]at f ⊢;exact⟨y,b,g,d,f,i⟩|_=>exact⟨y,b,g,d,f,i⟩
def I6.loop{c:Code}(g:Nat->X U->Sg->Prop)(n:Nat)(G:g n tm Y)(round:∀n tm Y,g n tm Y->I6 C n0 c tm Y (wS (fun tm' Y'=>∃K,K<n/\g K tm' Y') Q)):I6 C n0 (.loop c) tm Y Q:=by
 intro V F x H m w a L Z st J T ro eN b k M R O W;have key:∀n tm Y,g n tm Y->n0<=Y.nx->∀x H m w a,x.Y=Y->St F x tm H m w a->SN C n0 x m w->DR C L a.defers w a.defers->∃e I w',Q_ C n0 F x m w a.defers L Q e I w'/\ArrivesIn (Machine.fenced C.prog<|oQ ro) C.prog (lone (b.atR a (.code c :: .inLoop c::k)) M w) b k M e I w':=by
  intro n;induction n using Nat.strongRecOn with
  |_ n ih=>
   intro tm Y hI V x H m w a Z st J T;obtain⟨e,r,f,⟨y,B,v,q,h,t,j,o,u,p⟩,i⟩:=round n tm Y hI V F x H m w a L Z st J T ro eN b (.inLoop c::k) M R O W;cases e with
   |normal=>obtain⟨K,aH,N⟩:=h;obtain⟨E,D,o9,⟨z,Ra,Qy,FK,Zr,Fa,RY,Gc,Fo,Gu⟩,RW⟩:=ih K aH B y.Y N u y v q f r rfl t (J.kE st.fits j o) p.here;exact⟨E,D,o9,⟨z,Ra,Qy,FK,Zr,Fa,j.trans RY,o.trans Gc,Fo,p.trans Gu⟩,.of_steps (StepsIn.trans i<|.one (fenced_calm O W rfl) stepR_inLoop) RW⟩
   |exit id=>exact⟨_,r,f,⟨y,B,v,q,h,t,j,o,u,p⟩,.pass (x:=.inLoop c) rfl (fun _ _=>.inl ca) i⟩|goto l=>exact⟨_,r,f,⟨y,B,v,q,h,t,j,o,u,p⟩,.pass (x:=.inLoop c) rfl (fun _ _=>.inl ca) i⟩
   |ret=>exact⟨_,r,f,⟨y,B,v,q,h,t,j,o,u,p⟩,.pass (x:=.inLoop c) rfl (fun _ _=>.inl ca) i⟩|panic ch=>exact⟨_,r,f,⟨y,B,v,q,h,t,j,o,u,p⟩,.pass (x:=.inLoop c) rfl (fun _ _=>.inl ca) i⟩
   |outgrown=>exact⟨_,r,f,⟨y,B,v,q,h,t,j,o,u,p⟩,.pass (x:=.inLoop c) rfl (fun _ _=>.inl ca) i⟩
 obtain⟨e,I,w',h,i⟩:=key n tm Y G V x H m w a Z st J T;exact⟨e,I,w',h,.of_steps (.one (fenced_calm O W rfl) stepR_loop) i⟩
def Gh(n0:Nat)(tm:X U)(Y:Sg)(tm':X U)(b:Sg):Prop :=
 ∀F x a,x.Y=Y->jB x->Fr F x->aZ x tm a->∃y,(∀m w,fW m x.s w->bJ m x.s w m y.s w)/\y.Y=b/\jB y/\Fr F y/\aZ y tm' a/\Ke n0 x y
def Gh.refl(n0:Nat)(tm:X U)(Y:Sg):Gh n0 tm Y tm Y:=fun F x e c h a b=>⟨x,fun m w a=>bJ.refl a,c,h,a,b,Ke.refl _ _⟩
def Gh.trans{tm' c:X U}{Y' b:Sg}(h:Gh n0 tm Y tm' Y')(h':Gh n0 tm' Y' c b):Gh n0 tm Y c b:=fun F x f v u a t=>by
 obtain⟨y,e,l,o,p,q,r⟩:=h F x f v u a t;obtain⟨z,g1,g2,g,i,j,k⟩:=h' F y f l o p q;exact⟨z,fun m w a=>(e m w a).trans (g1 m w (e m w a).fits),g2,g,i,j,r.trans k⟩
def dJ{c:Code}{tm':X U}{Y':Sg}(h:Gh n0 tm Y tm' Y')(K:n0<=Y'.nx)(I:I6 C n0 c tm' Y' Q):I6 C n0 c tm Y Q:=fun M F x j m w a k J st G H ro o=>by
 obtain⟨y,u,v,B,D,E,i⟩:=h F x j J st.h st.fr st.e;have b:=u m w st.fits;refine wpIn_mono (I K F y j m w a k v ⟨B,D,E,b.fits,st.act.ext b.agree b.nx⟩ (G.kE st.fits b i) H ro o) ?_;rintro e L w' ⟨z,l,f,g,g1,g2,p,q,r,t⟩;exact⟨z,l,f,g,g1,g2,b.trans p,i.trans q,r,t⟩
def I6.after{c:Code}{j:Exit->X U->Sg->Prop}(h:I6 C n0 c tm Y j)(K:∀e tm Y,n0<=Y.nx->j e tm Y->∃b i,n0<=i.nx/\Gh n0 tm Y b i/\Q e b i):I6 C n0 c tm Y Q:=fun J F x M m w a l L st H I ro p=>by
 refine wpIn_mono (h J F x M m w a l L st H I ro p) ?_;rintro e N w' ⟨y,b,k,d,v,f,B,D,E,G⟩;obtain⟨o,O,q1,q2,q3⟩:=K e b y.Y E v;obtain⟨z,g1,g2,q,r,t,u⟩:=q2 F y k rfl f.h f.fr f.e;have g:=g1 d w' f.fits;exact⟨z,o,k,d,g2 ▸ q3,⟨q,r,t,g.fits,f.act.ext g.agree g.nx⟩,B.trans g,D.trans u,g2 ▸ q1,G⟩
variable{T:Tb}(j:j0 C.prog T)
include j
def Ki(v:Ie Oper)(E:Exit->Act->Jb->Prop){F:Nat->m9->Prop}{x0:Cx}{m0:Nm}{w0:Jb}{df:X Deferred}(K:X U->Sg->Prop)(xM:SN C n0 x0 m0 w0)(q:fW m0 x0.s w0)(ro:A Nat)(eN:C.ro ro):
  ∀(k:X Oper)(i:Nat),v.toList.drop i=k->∀(x:Cx)(tm:X U)(tv:X I)(m:Nm)(w:Jb)(a:Act),St F x tm tv m w a->a.defers=df->bJ m0 x0.s w0 m x.s w->Ke n0 x0 x->n0<=x.Y.nx->RU C T v.toList k tm x.Y K-> (∀y tm' B d w' a',K tm' y.Y->St F y tm' B d w' a'->bJ m0 x0.s w0 d y.s w'->Ke n0 x0 y->n0<=y.Y.nx->a'.defers=df->E .normal a' w')->wpOpsIn (oQ ro) 0 C.prog v E (range' i k.length) a w
 |[],i,_,x,tm,tv,m,w,a,st,hd,G,H,J,h,Z=>by simp only[zS,range'_zero,wpOpsIn];exact Z x tm tv m w a h st G H J hd
 |o::k,i,tS,x,tm,tv,m,w,a,st,hd,G,H,J,h,Z=>by
  have ho:v[i]? = some o:=by have:=congrArg (fun l=>l[0]?) tS;simpa using this
  have bF:v.toList.drop (i+1)=k:=by have:=congrArg List.tail tS;simpa using this
  simp only[zO,qcx,wpOpsIn,ho,gj (st.act m<|aJ.refl _ _) v o];simp only[RU]at h;obtain⟨D,u,Y',r,W⟩|⟨D,f,args,R,r,W,h3⟩|⟨D,r⟩|⟨D,t,xo,yo,ty,e,b,l,r,W,h3,h4,h5⟩|⟨D,R,r,W⟩:=h;rw[B9 st.e D];simp only[It];refine v7 (P8 r)<|st.op j o r fun y B L p M e1 N O V gY iO=>?_;exact Ki v E K xM q ro eN k (i+1) bF y _ B L p M N (iO.trans hd) (G.trans O) (H.trans<|V.le J) ag (e1 ▸ W) Z;rw[B9 st.e D];simp only[It];refine v7 (Tp r)<|st.call j o r W fun y u B L p M hR N O V gY iO=>?_;exact Ki v E K xM q ro eN k (i+1) bF y _ B L p M N (iO.trans hd) (G.trans O) (H.trans<|V.le J) ag (h3 u y.Y hR) Z;rw[B9 st.e D];simp only[XM,LX];exact⟨fun _ _=>trivial,Ki v E K xM q ro eN k (i+1) bF x _ _ m w _ (st.skip o.dst) ((FD _ _ _).trans hd) G H J r Z⟩;rw[B9 st.e D];simp only[It];refine v7 (by rw[r];intro c hc;cases hc)<|st.kQ j o r W h3 h4 fun z y B L p M hz e1 N O V gY iO=>?_;exact Ki v E K xM q ro eN k (i+1) bF y _ B L p M N (iO.trans hd) (G.trans O) (H.trans<|V.le J) ag (e1 ▸ h5 z hz) Z;rw[B9 st.e D];simp only[It];refine r F x tv m w a _ _ rfl st ⟨eb xM.nb J,(xM.kE q G H).g⟩ (fun u y B L p M hR N O V gY iO=>?_) ro eN;exact Ki v E K xM q ro eN k (i+1) bF y _ B L p M N (iO.trans hd) (G.trans O) (H.trans<|V.le J) ag (W u y.Y hR) Z
def I6.region{id:Nat}{c:Ie Oper}(h:RU C T c.toList c.toList tm Y (fun b e=>Q .normal b e)):I6 C n0 (.region id c false) tm Y Q:=fun v F x B m w a g z st t u ro k=>by
 subst z;refine wpIn_region ?_;have:=Ki j c (Q_ C n0 F x m w a.defers g Q) (F:=F) (x0:=x) (m0:=m) (w0:=w) (df:=a.defers) (fun b e=>Q .normal b e) t st.fits ro k c.toList 0 ca x tm B m w a st rfl (bJ.refl st.fits) (Ke.refl _ _) v h
  (fun y b i d w' D l o f p q r=>⟨y,b,i,d,l,o,f,p,q,by rw[r];exact u.kE st.fits f⟩)
 rw[range_eq_range'];simpa using this
end
def lB(T:Tb)(Y:Sg)(tm:X U):X ResultVar->A (X U)
 |[]=>some []|.tmp t::r=>match nth tm t with
  |some v=>(match lB T Y tm r with
   |some l=>some (v::l)|none=>none)
  |none=>none
 |.cell a t::r=>match qR T Y tm (.load t<|.tmp a)with
  |some v=>(match lB T Y tm r with
   |some l=>some (v::l)|none=>none)
  |none=>none
def mC:X U->U
 |[v]=>v|l=>.a7 l
def Sq{T:Tb}{x:Cx}(F:jB x){tm:X U}{o:X I}(B:aZ x tm o):∀{j:X ResultVar}{r:X U},lB T x.Y tm j=some r->∃p,GO T o x.s j=some p/\aZ x r p
 |[],r,h=>by simp only[lB,zA]at h;subst h;exact⟨[],rfl,aZ.nil x⟩
 |.tmp t::j,r,h=>by simp only[lB,jT]at h;rcases c:tm[t]? with _|u;simp[c]at h;rcases g:lB T x.Y tm j with _|l;simp[c,g]at h;simp only[c,g,zA]at h;subst h;obtain⟨v,f,q⟩:=B.get c;obtain⟨p,z,D⟩:=Sq F B g;exact⟨v::p,by simp[GO,jT,f,z],aZ.cons q D⟩
 |.cell a t::j,r,h=>by
  simp only[lB]at h;rcases c:qR T x.Y tm (.load t<|.tmp a)with _|u;simp[c]at h;rcases g:lB T x.Y tm j with _|l;simp[c,g]at h;simp only[c,g,zA]at h;subst h;obtain⟨v,y,f,q,z,D⟩:=qwx F B c;obtain⟨p,H,J⟩:=Sq F B g;have Q:jR T o (.load t<|.tmp a)=none:=rfl;have M:AS T o x.s (.load t<|.tmp a)=none:=rfl;have L:dd T o (.load t<|.tmp a)=none:=rfl;unfold BD at f;simp only[Q,M,L]at f;rcases C:qQ T o x.s (.load t<|.tmp a)with _|v';simp[C]at f;simp only[C,zA,zB]at f;obtain⟨rfl,R⟩:=f;refine⟨v'::p,by simp[GO,C,H],aZ.cons ?_ J⟩;have K:Mo y.Y.nx y x:=by refine⟨fun k N G=>?_,fun i row e O=>by rw[R];exact O⟩;rw[q]at G ⊢;refine⟨G,fun b E=>⟨b,E,zF _,fun _=>⟨?_,fun l e W st h=>⟨l,h⟩⟩⟩⟩;have:=(D.mo.ref k (by rw[<-q];exact N) G).2 b (by rw[q];exact E);obtain⟨V,q1,q2,q3⟩:=this;rw[E]at q1;cases q1;exact(q3 rfl).1.symm
  exact K.ke u _ (aD.L5 _ _ z) z
def z1s{b:X U}{a:X I}(h:aZ x b a):aD x (mC b) (wO a):=by
 match b,a,h with
 |[],a,h=>rw[h.L7];simp only[mC,wO,aD];exact⟨[],rfl,by simp[c7],rfl⟩|[u],a,h=>obtain⟨v,g,rfl,e,c⟩:=h.inv;rw[c.L7];exact e
 |u::k::b,a,h=>obtain⟨v,g,rfl,e,c⟩:=h.inv;obtain⟨l,f,rfl,i,j⟩:=c.inv;simp only[mC,wO,aD];exact⟨_,rfl,h.1,h.2⟩
def DE:Nat->X U->X U
 |0,l=>l|n+1,[]=>.a7 []::DE n []
 |n+1,v::l=>v::DE n l
def Su{x:Cx}:∀(n:Nat){b:X U}{a:X I},aZ x b a->aZ x (DE n b) (pad n a)
 |0,b,a,h=>h|n+1,[],a,h=>by rw[h.L7];exact aZ.cons (by simp only[aD];exact⟨[],rfl,by simp[c7],rfl⟩) (Su n<|aZ.nil x)
 |n+1,u::b,a,h=>by obtain⟨v,f,rfl,c,e⟩:=h.inv;exact aZ.cons c (Su n e)
section
variable{P:Ib}{T:Tb}(a:j0 P T)
include a
def Jv{f:FuncId}{fn:Func}{c:Code}{args:X U}{Y:Sg}{R:U->Sg->Prop}(hf:T.fn f=some fn)(hb:fn.body=some c)
  (h:I6 (PG.of P) Y.nx c (DE fn.ntmps args) Y fun e p J=>(e=.normal\/e=.ret)/\∃l,lB T J p fn.results.toList=some l/\∃B r,Y.nx<=r.nx/\Gh Y.nx [mC l] J [B] r/\R B r):aT P f args Y R:=fun F x N m w b H hh eP he dH i=>by
 obtain⟨G,_⟩:=a.fn f fn hf;have fB:b.length=N.length:=by rw[<-i.at];simp
 refine calls_of_wp G hb ?_;have W:wQ m x.s.nx (pad fn.ntmps N) { tmps:=b.toArray++Array.replicate (fn.ntmps-b.toArray.size) undef,defers:=[] }:=fun d fT=>by simp only[W_,y8,i d fT,fB,mm];apply qW;simp[lM,G0,undef]
 refine wp_mono ((wpIn_wide (n:=0)).1 (h (zF _) F x _ m w _ 0 H ⟨hh,eP,Su _ he,dH,W⟩ ⟨qq _,trivial⟩ ⟨fun _=>rfl,fun h=>by cases h⟩ none trivial)) ?_;rintro e C w' ⟨y,p,cO,d,⟨qU,l,yM,B,r,gY,Z,hR⟩,j,aO,eC,hn,k⟩;have iO:C.defers=[]:=k.eq rfl;obtain⟨o,V,Q⟩:=Sq j.h j.e yM;have D:∀g,aJ y.s.nx d g->(results fn C.tmps).run P w'=.ok (G0 g<|wO o) w':=fun g t=>by rw[j.act g t];exact qjq a (j.fits g t) V
 have iF:iC d y.s.nx (wO o) (G0 d<|wO o):=fun g t=>by have E:=D g t;rw[D d<|aJ.refl _ _]at E;simp at E;exact E.symm
 obtain⟨z,z1,O,z3,z4,z5,z6⟩:=Z F y [wO o] rfl j.h j.fr (aZ.cons (z1s Q)<|aZ.nil y);obtain⟨v0,Jx,e0,z7,_⟩:=z5.inv;cases e0;have M:=z1 d w' j.fits;have I:bodyPost P fn (fun e q=>∃y K u v L,e=.returned L/\R u y.Y/\bJ m x.s w K y.s q/\iC K y.s.nx v L/\jB y/\Fr F y/\aD y u v/\Ke x.Y.nx x y/\x.Y.nx<=y.Y.nx) .ret C w' :=
  ⟨iO,_,D d<|aJ.refl _ _,z,d,B,wO o,_,rfl,O ▸ hR,aO.trans M,iF.ext (aJ.refl _ _) M.nx,z3,z4,z7,H ▸ eC.trans z6,by rw[H,O];exact gY⟩
 obtain rfl |rfl:=qU;exact I;exact I
end
def aT.mono{P:Ib}{f:FuncId}{args:X U}{Y:Sg}{R c:U->Sg->Prop}(h:aT P f args Y R)(t:∀u e,R u e->c u e):aT P f args Y c:=fun F x B m w a z r k q j b=>
 (h F x B m w a z r k q j b).mono fun _ _ ⟨y,g,u,v,i,l,o,p⟩=>⟨y,g,u,v,i,l,t _ _ o,p⟩
end Go.Vx
namespace Go.Vx
open Go Go.Rx
def aT.pure{P:Ib}{f:FuncId}{args:X U}{R:U->Prop}(h:aT P f args ⟨[],0⟩ (fun u _=>R u/\aS 0 u))(N:aG 0 args)(Y:Sg):aT P f args Y (fun u C=>R u/\C=Y):=fun F x vs m w d T o J Q I g=>by
 have L:jB ⟨fun _=>none,⟨[],0⟩,x.s⟩:=⟨fun k b a=>by simp[gt]at a,fun k k' b b' i a=>by simp[gt]at a,o.bd⟩;have B:Mo 0 x ⟨fun _=>none,⟨[],0⟩,x.s⟩:=⟨fun k S=>ag,fun _ _ _ h=>h⟩;refine(h (fun i b=>lk x.s.h i=some b) ⟨fun _=>none,⟨[],0⟩,x.s⟩ vs m w d rfl L (fun i b a=>⟨a,fun k c O=>by simp[gt]at O⟩) (B.ke.E N Q) I g).mono ?_;rintro e z ⟨y,D,u,v,H,rfl,⟨M,K⟩,G,V,W,r,A,_,_⟩;have t:Mo x.Y.nx x ⟨x.Z,x.Y,y.s⟩:=⟨fun k _ j=>⟨j,fun b a=>⟨b,a,zF _,fun _=>⟨rfl,fun l e sz st h=>⟨l,h⟩⟩⟩⟩,fun i row e p=>(r i _ p).1⟩;have q:Mo 0 y ⟨x.Z,x.Y,y.s⟩:=⟨fun k S=>ag,fun _ _ _ h=>h⟩;refine⟨⟨x.Z,x.Y,y.s⟩,D,u,v,H,rfl,⟨M,T⟩,G,V,⟨fun k b a=>?_,o.inj,W.bd⟩,fun i b a=>?_,q.ke u v K A,t.ke,zF _⟩;obtain⟨n,j⟩:=o.ok k b a;exact⟨n,j.mono t rfl fun i c _ p=>(r i c p).1⟩;obtain⟨n,j⟩:=J i b a;exact⟨(r i b n).1,j⟩
def cV(n:Nat):B->Prop
 |.row l _=>aG n l|.vec l _ _ _=>aG n l
 |.map a _=>∀e∈a,aS n e.key/\aS n e.val
def GU(n:Nat):X (Nat×B)->Prop
 |[]=>True|(_,b)::h=>cV n b/\GU n h
def cut(n:Nat):X (Nat×B)->X (Nat×B)
 |[]=>[]|(k,b)::h=>cond (blt k n) ((k,b)::cut n h) (cut n h)
def Li(n:Nat)(h:X (Nat×B))(k:Nat):gt (cut n h) k=if k<n then gt h k else none:=by induction h with|nil=>simp[cut,gt]|cons p h d=>obtain⟨j,b⟩:=p;simp only[cut];by_cases c:j<n;rw[y5 c];simp only[zC,aV,d];by_cases a:j=k;subst a;simp[c];simp[a];rw[UB c];simp only[zD,aV,d];by_cases a:j=k;subst a;simp[c];simp[a]
def z4u{n:Nat}{h:X (Nat×B)}(d:GU n h){k:Nat}{b:B}(a:gt h k=some b):cV n b:=by induction h with|nil=>simp[gt]at a|cons p h e=>obtain⟨j,c⟩:=p;simp only[GU]at d;simp only[aV]at a;split at a;cases a;exact d.1;exact e d.2 a
def o8.k_{n:Nat}{x y:Cx}{k:Nat}{b:B}(h:o8 x k b)(p:cV n b)(hm:Mo n x y)(g:y.Z k=x.Z k)(q:∀i c,x.Z k=some i->lk x.s.h i=some c->lk y.s.h i=some c):o8 y k b:=by
 cases b with
 |row l e=>obtain⟨r,i,t,a,f,d⟩:=h;exact⟨r,i,t,by rw[g,a],q _ _ a f,hm.ke.E p d⟩
 |vec l e D st=>obtain⟨r,z,o⟩:=h;refine⟨r,z,?_⟩;obtain⟨o,w⟩|⟨i,t,a,f,d⟩:=o;exact .inl ⟨o,by rw[g,w]⟩;exact .inr ⟨i,t,by rw[g,a],q _ _ a f,hm.ke.E p d⟩
 |map C A=>obtain⟨i,m,a,f,d⟩:=h;refine⟨i,m,by rw[g,a],q _ _ a f,d.1,fun j e u=>?_⟩;obtain⟨v,q1,q2,q3,q4⟩:=d.2 j e u;have:=p e<|zX u;exact⟨v,q1,hm.ke _ _ this.1 q2,hm.ke _ _ this.2 q3,q4⟩
def IZ:X Rl->X U->X U
 |true::l,_::a=>.L2::IZ l a|false::l,u::a=>u::IZ l a
 |_,a=>a
def qpg{x:Cx}:∀(l:X Rl){b:X U}{a:X I},aZ x b a->aZ x (IZ l b) a
 |[],b,a,h=>by cases b<;>exact h
 |true::l,[],a,h=>h|false::l,[],a,h=>h
 |true::l,u::b,a,h=>by obtain⟨v,e,rfl,d,c⟩:=h.inv;exact aZ.cons (by simp[aD]) (qpg l c)
 |false::l,u::b,a,h=>by obtain⟨v,e,rfl,d,c⟩:=h.inv;exact aZ.cons d (qpg l c)
def Gh.L2(e:Nat)(l:X Rl)(b:X U)(Y:Sg):Gh e b Y (IZ l b) Y:=fun F x f d h a c=>⟨x,fun m w a=>bJ.refl a,d,h,a,qpg l c,Ke.refl _ _⟩
def Gh.cut{q a:Nat}{o:X U}{Y:Sg}(t:q<=a)(B:a<=Y.nx)(f:aG a o)(y:GU a (Vx.cut a Y.h)):Gh q o Y o ⟨Vx.cut a Y.h,a⟩:=fun F x D z n g v=>by
 subst z;have j:Mo a x ⟨x.Z,⟨Vx.cut a x.Y.h,a⟩,x.s⟩:=by refine⟨fun k p _=>⟨p,fun b f=>?_⟩,fun _ _ _ h=>h⟩;simp only[Li,p,It]at f;exact⟨b,f,zF _,fun _=>⟨rfl,fun l e C st h=>⟨l,h⟩⟩⟩
 have sub:∀{k b},gt (Vx.cut a x.Y.h) k=some b->k<a/\gt x.Y.h k=some b:=fun{k b} d=>by simp only[Li]at d;split at d;exact⟨by assumption,d⟩;cases d
 refine⟨⟨x.Z,⟨Vx.cut a x.Y.h,a⟩,x.s⟩,fun m w g=>bJ.refl g,rfl,⟨fun k b d=>?_,fun k A b r i g1 g2=>n.inj k A b r i (sub g1).2 (sub g2).2,n.bd⟩,fun i b O=>?_,j.ke.E f v,j.ke.le t⟩;exact⟨(sub d).1,(n.ok k b (sub d).2).2.k_ (z4u y d) j rfl fun _ _ _ h=>h⟩;exact⟨(g i b O).1,fun k c u=>(g i b O).2 k c (sub u).2⟩
def qxa{l:X I}{i:Nat}{v:I}(h:l[i]? = some v):l.set i v=l:=by apply me;intro j;rw[mi];split;rename_i e;subst e;have:=(zG.1 h).1;simp only[this,It];exact h.symm;rfl
def B_{n0:Nat}{tm:X U}{Y:Sg}(i:Nat)(e:TypeId)(sz:Nat)(g:0<sz)(j:n0<=Y.nx)(f:nth tm i=some .J):Gh n0 tm Y (tm.set i<|.vl Y.nx 0 0 0) (cc Y<|.vec [] e sz 0):=fun F x p n l c b=>by
 subst n;have a:=gk l e sz g;rw[jT]at f;obtain⟨v,k,d⟩:=b.get f;simp only[aD]at d;subst d;refine⟨⟨mO x.Z x.Y.nx none,cc x.Y<|.vec [] e sz 0,x.s⟩,fun m w c=>bJ.refl c,rfl,a.h,a.fr F c,?_,a.mo.ke.le j⟩;have:=(a.mo.ke.E b.L5 b).set i (YA (x:=x) (e:=e) (sz:=sz) (o:=none) ca)
 rwa [qxa k]at this
def bJ.freeze{m:Nm}{s:S}{w:Jb}(h:fW m s w){i:Nat}{l:X I}{e y r:Nat}(x:lk s.h i=some (.inl (l,e,y)))(N:y=0/\r=0\/∃z,y=z+2/\r=z+1):
  bJ m s w m ⟨up s.h i<|.inl (l,r,1),s.nx⟩ w:=by
 have g:∀j c,lk (up s.h i<|.inl (l,r,1)) j=some c->∃d,lk s.h j=some d/\(iK c=true->iK d=true)/\(j≠i->c=d):=fun j c a=>by simp only[AY]at a;by_cases q:i=j;subst q;simp only[It,x,zM,zA]at a;subst a;exact⟨_,x,fun h=>by simp[iK]at h,fun h=>absurd rfl h⟩;simp only[q,LX]at a;exact⟨c,a,id,fun _=>rfl⟩
 refine⟨aJ.refl _ _,zF _,fun D L=>?_,?_,fun _ _ _=>rfl,zF _,rfl,rfl,rfl⟩;have t:=h D L;refine⟨fun j c a=>?_,fun j k c d a M F B=>?_,fun j c a=>?_⟩;by_cases q:j=i;subst q;simp only[AY,It,x,zM,zA]at a;subst a;have C:wW D j l e w y:=t.ok j _ x;obtain⟨rfl,rfl⟩|⟨z,rfl,rfl⟩:=N;obtain⟨K,f⟩:=C;exact⟨_,_,_,f,fun k v u=>by simp[K,lM,u],fun n A=>absurd A ca⟩;obtain⟨O,E,f,o,p⟩:=C;refine⟨_,_,_,f,fun k v u=>?_,fun n A=>?_⟩;have G:k<l.length:=(zG.1 u).1;simp only[vv,zT,<-o];rw[kq ag,nv,kl<|by simpa using G];simp[lM,u];have:n=z:=(Nat.succ.inj A).symm;subst this;exact le_of_add_right_le<|la p;obtain⟨d,f,_,p⟩:=g j c a;rw[p q];exact t.ok j d f;obtain⟨H,f,o,_⟩:=g j c a;obtain⟨J,p,_,_⟩:=g k d M;exact t.inj j k H J f p F<|o B;obtain⟨d,f,_⟩:=g j c a;exact t.bd j d f;rintro b ⟨j,c,a,B,rfl⟩;obtain⟨d,f,o,_⟩:=g j c a;exact .inl ⟨j,d,f,o B,rfl⟩
def bR(a:Nat):Nat->X U->X (X U)
 |0,_=>[]|n+1,l=>l.take a::bR a n (l.drop a)
def Rp(b n:Nat)(l:X U):(bR b n l).length=n:=by induction n generalizing l with|zero=>rfl|succ n a=>simp[bR,a]
def M'{x:Cx}{b:Nat}:∀(n:Nat){l:X U}{c:X I},c7 x l c->I5 l=true->n*b<=l.length->iD x b (bR b n l) c
 |0,l,c,h,d,e=>by simp[bR,iD]
 |n+1,l,c,h,d,e=>by rw[eF]at e;simp only[bR,iD];refine⟨by simp;omega,UE d _,?_,M' n (h.drop b) (H8 d _) (by simp;omega)⟩;rw[JC]at h ⊢;intro i u a;rw[l8]at a;split at a;exact h i u a;cases a
mutual
def fz(K:Nat)(b:B)(d:Nat):U->U
 |.sl k off n c=>cond (Nat.beq k K) (match b with
  |.row l _=>if off+n*d<=l.length then .O false (bR d n<|l.drop off)else .sl k off n c|_=>.sl k off n c) (.sl k off n c)
 |.vl k st off n=>cond (Nat.beq k K) (match b with
  |.vec l _ e g=>if g=st/\(off+n)*e<=l.length then .O false (bR e n<|l.drop<|off*e)else .vl k st off n|_=>.vl k st off n) (.vl k st off n)
 |.ptr k st off=>cond (Nat.beq k K) (match b with
  |.row l _=>if st=0 then .b4 (l.drop off)else .ptr k st off|_=>.ptr k st off) (.ptr k st off)
 |.agg l=>.agg (k9 K b d l)|.a7 l=>.a7 (k9 K b d l)
 |.fn f a c=>.fn f (k9 K b d a) (k9 K b d c)|u=>u
def k9(K:Nat)(b:B)(a:Nat):X U->X U
 |[]=>[]|u::l=>fz K b a u::k9 K b a l
end
def fv(K:Nat)(b:B)(a:Nat):B->B
 |.row l e=>.row (k9 K b a l) e|.vec l e s st=>.vec (k9 K b a l) e s st
 |.map d c=>.map (d.map fun e=>{ e with val:=fz K b a e.val }) c
def dA(K:Nat)(b:B)(sz:Nat):X (Nat×B)->X (Nat×B)
 |[]=>[]|(k,c)::h=>cond (Nat.beq k K) (dA K b sz h) ((k,fv K b sz c)::dA K b sz h)
def J7(K:Nat)(b:B)(f:Nat)(h:X (Nat×B))(k:Nat):gt (dA K b f h) k=if k=K then none else(gt h k).map (fv K b f):=by induction h with|nil=>simp[dA,gt]|cons p h e=>obtain⟨j,c⟩:=p;simp only[dA,beq_eq];by_cases d:j=K;subst d;simp only[yC,zC,e,aV];by_cases a:k=j;simp[a];simp[a,Wv a];simp only[d,yB,zD,aV,e];by_cases a:j=k;subst a;simp[d];simp[a]
def Hj(K:Nat)(b:B)(a:Nat)(c:B):(fv K b a c).st=c.st:=by cases c<;>rfl
def Hh(K:Nat)(b:B)(a:Nat)(u:U)(h:Y9 u=true):Y9 (fz K b a u)=true:=by
 cases u with
 |sl k off n c=>
  simp only[fz];obtain _|_:=Nat.beq k K;rfl;simp only[zC];cases b with
  |row l e=>simp only;split<;>rfl|_=>rfl
 |vl k st off n=>
  simp only[fz];obtain _|_:=Nat.beq k K;rfl;simp only[zC];cases b with
  |vec l e s st=>simp only;split<;>rfl|_=>rfl
 |ptr k st off=>
  simp only[fz];obtain _|_:=Nat.beq k K;rfl;simp only[zC];cases b with
  |row l e=>simp only;split<;>rfl|_=>rfl
 |agg l=>simp[Y9]at h|a7 l=>simp[Y9]at h
 |L2=>simp[Y9]at h|_=>simp only[fz];first |exact h |rfl
def ul(K:Nat)(b:B)(a:Nat):∀l:X U,I5 l=true->I5 (k9 K b a l)=true
 |[],_=>rfl|u::l,h=>by simp only[I5]at h;obtain⟨c,d⟩:=NI h;simp[k9,I5,Hh K b a u c,ul K b a l d]
def Bc(K:Nat)(b:B)(a:Nat):∀l:X U,(k9 K b a l).length=l.length
 |[]=>rfl|u::l=>by simp[k9,Bc K b a l]
section
variable{x y:Cx}{K:Nat}{b:B}{sz:Nat}(d:gt x.Y.h K=some b)(g:o8 x K b)(j:Mo x.Y.nx x y)
 (dP:∀i l e md,x.Z K=some i->lk x.s.h i=some (.inl (l,e,md))->(md=0/\lk y.s.h i=some (.inl (l,0,1)))\/∃s,md=s+2/\lk y.s.h i=some (.inl (l,s+1,1)))
include d g j dP
mutual
def z87:(u:U)->(v:I)->aD x u v->aD y (fz K b sz u) v
 |.sl k off n c,v,h=>by
  have T6:=j.ke _ _ (aD.L5 _ _ h) h;simp only[fz,beq_eq];by_cases z:k=K;subst z;simp only[yC,zC];cases b with
  |row l e=>simp only;split;rename_i A;obtain⟨i,J,rfl,X,T⟩:=Lu (x:=x) (by simp[live,d,B.st]) h;obtain⟨M,i',m,w,C,r⟩:=g;rw[J]at w;cases w;have D:c7 y l m:=(j.ke.E r.L5 r).1;obtain⟨_,L⟩|⟨s,Q,_⟩:=dP i m e 0 J C;simp only[aD,Rp];refine .inr ⟨i,off,c,rfl,(fun ht=>by cases ht),?_⟩;by_cases Y:n=0;exact .inl (X0<|by rw[Rp,Y]);exact .inr ⟨m,0,sz,L,M' n (D.drop off) (H8 M _) (by simp;omega),.inl ⟨X,T⟩⟩;omega;exact T6
  |_=>exact T6
  simp only[z,yB,zD];exact T6
 |.vl k st off n,v,h=>by
  have T6:=j.ke _ _ (aD.L5 _ _ h) h;simp only[fz,beq_eq];by_cases z:k=K;subst z;simp only[yC,zC];cases b with
  |vec l e W bA=>
   simp only;split;rename_i A;obtain⟨rfl,A⟩:=A;obtain⟨l0,e0,s0,g1,g2⟩:=Lt (x:=x) (by simp[live,d,B.st]) h;have:=d.symm.trans g1;cases this;obtain⟨M,k2,H⟩:=g;obtain⟨rfl,O⟩|⟨i,m,w,C,r⟩:=H;rw[O]at g2;obtain⟨rfl,rfl,o,rfl,Z⟩:=g2;simp only[aD,bR];obtain _|a:=o;exact .inl ⟨trivial,.inl rfl⟩;exact .inr ⟨a.block,a.off,0,by obtain⟨q1,q2,q3⟩:=a;have:=Z _ rfl;simp only at this;subst this;rfl,by simp,.inl trivial⟩;rw[w]at g2;have D:c7 y l m:=(j.ke.E r.L5 r).1;obtain⟨h0,_⟩|⟨s,Q,L⟩:=dP i m e _ w C;omega;have:s=W:=by omega
   subst this;simp only[aD,Rp];obtain⟨_,rfl,a,c,rfl,P⟩|rfl:=g2;exact .inr ⟨a.block,a.off,c,by obtain⟨q1,q2,q3⟩:=a;simp only at P;subst P;rfl,by simp,.inl rfl⟩;refine .inr ⟨i,off*s,cP+off,rfl,by simp,?_⟩;rw[dR]at A;exact .inr ⟨m,s+1,s,L,M' n (D.drop _) (H8 M _) (by simp;omega),.inr ⟨by omega,rfl,k2,by simp[cJ],by rw[<-r.2];exact A⟩⟩;exact T6
  |_=>exact T6
  simp only[z,yB,zD];exact T6
 |.ptr k st off,v,h=>by
  have T6:=j.ke _ _ (aD.L5 _ _ h) h;simp only[fz,beq_eq];by_cases z:k=K;subst z;simp only[yC,zC];cases b with
  |row l e=>simp only;split;rename_i V;subst V;obtain⟨i,J,rfl⟩:=Bh (x:=x) (by simp[live,d,B.st]) h;obtain⟨M,i',m,w,C,r⟩:=g;rw[J]at w;cases w;have D:c7 y l m:=(j.ke.E r.L5 r).1;obtain⟨_,L⟩|⟨s,Q,_⟩:=dP i m e 0 J C;simp only[aD];exact⟨i,off,m,0,rfl,L,D.drop off,H8 M _⟩;omega;exact T6
  |_=>exact T6
  simp only[z,yB,zD];exact T6
 |.agg l,v,h=>by simp only[aD,fz]at*;obtain⟨N,rfl,F,G,H⟩:=h;exact⟨N,rfl,Lw l N F,by rw[Bc];exact G,ul K b sz l H⟩
 |.a7 l,v,h=>by simp only[aD,fz]at*;obtain⟨N,rfl,F,G⟩:=h;exact⟨N,rfl,Lw l N F,by rw[Bc];exact G⟩
 |.fn f p q,v,h=>by simp only[aD,fz]at*;obtain⟨R,S,rfl,F,G,H,O⟩:=h;exact⟨R,S,rfl,Lw p R F,by rw[Bc];exact G,Lw q S H,by rw[Bc];exact O⟩
 |.L2,v,h=>by simp[fz,aD]
 |.bool _,v,h=>by simpa[fz,aD]using h
 |.int _ _,v,h=>by simpa[fz,aD]using h
 |.str _,v,h=>by simpa[fz,aD]using h
 |.b8,v,h=>by simpa[fz,aD]using h
 |.J,v,h=>by simpa[fz,aD]using h
 |.e9,v,h=>by simpa[fz,aD]using h
 |.j7,v,h=>by simpa[fz,aD]using h
 |.j9,v,h=>by simpa[fz,aD]using h
 |.map k,v,h=>by simp only[fz];exact j.ke _ _ (aD.L5 _ _ h) h
 |.b4 l,v,h=>by simp only[fz];exact j.ke _ _ (aD.L5 _ _ h) h
 |.O t l,v,h=>by simp only[fz];exact j.ke _ _ (aD.L5 _ _ h) h
def Lw:(l:X U)->(a:X I)->c7 x l a->c7 y (k9 K b sz l) a
 |[],a,h=>by have _:=d;have _:=g;have _:=j;have _:=dP;simp[k9,c7]
 |u::l,[],h=>by simp[c7]at h
 |u::l,v::a,h=>by simp only[c7,k9]at*;exact⟨z87 u v h.1,Lw l a h.2⟩
end
end
def Gh.freeze{n0:Nat}{tm:X U}{Y:Sg}{K:Nat}{b:B}(sz:Nat)(N:gt Y.h K=some b)(hb:∀J P,b≠.map J P):Gh n0 tm Y (k9 K b sz tm) ⟨dA K b sz Y.h,Y.nx⟩:=fun F x tv hx A M D=>by
 subst hx;obtain⟨hK,L⟩:=A.ok K b N;have hs:∃a:S,(∀m w,fW m x.s w->bJ m x.s w m a w)/\(∀i c,lk x.s.h i=some c->x.Z K≠some i->lk a.h i=some c)/\(∀i c,lk a.h i=some c->i<a.nx)/\
   (∀i l e n,x.Z K=some i->lk x.s.h i=some (.inl (l,e,n))->(n=0/\lk a.h i=some (.inl (l,0,1)))\/∃s,n=s+2/\lk a.h i=some (.inl (l,s+1,1))):=by
  have act:∀i l e n f,x.Z K=some i->lk x.s.h i=some (.inl (l,e,n))->(n=0/\f=0\/∃sz,n=sz+2/\f=sz+1)->∃a:S,(∀m w,fW m x.s w->bJ m x.s w m a w)/\(∀i c,lk x.s.h i=some c->x.Z K≠some i->lk a.h i=some c)/\(∀i c,lk a.h i=some c->i<a.nx)/\
   (∀i l e n,x.Z K=some i->lk x.s.h i=some (.inl (l,e,n))->(n=0/\lk a.h i=some (.inl (l,0,1)))\/∃s,n=s+2/\lk a.h i=some (.inl (l,s+1,1))):=by
   intro i l e n f O r qC;refine⟨⟨up x.s.h i<|.inl (l,f,1),x.s.nx⟩,fun m w M=>bJ.freeze M r qC,fun j c g H=>?_,fun j c g=>?_,fun j t e' md' E vE=>?_⟩;have:i≠j:=fun h=>H (by rw[O,h]);simp[AY,this,g];simp only[AY]at g;split at g;rename_i h;subst h;exact A.bd _ _ r;exact A.bd j c g;rw[O]at E;cases E;rw[r]at vE;cases vE;obtain⟨rfl,rfl⟩|⟨s,rfl,rfl⟩:=qC
   exact .inl ⟨rfl,by simp[AY,r]⟩;exact .inr ⟨s,rfl,by simp[AY,r]⟩
  cases b with
  |map J P=>exact absurd rfl (hb J P)|row l e=>obtain⟨_,i,t,f,o,_⟩:=L;exact act i t e 0 0 f o (.inl ⟨rfl,rfl⟩)
  |vec l e s st=>obtain⟨_,_,z⟩:=L;obtain⟨_,h4⟩|⟨i,t,f,o,_⟩:=z;exact⟨x.s,fun m w M=>bJ.refl M,fun i c g _=>g,A.bd,fun i l e n O=>by rw[h4]at O;cases O⟩;exact act i t e (s+2) (s+1) f o (.inr ⟨s,rfl,rfl⟩)
 obtain⟨a,a1,G,a3,a4⟩:=hs;have sub:∀{k c},gt (dA K b sz x.Y.h) k=some c->k≠K/\∃d,gt x.Y.h k=some d/\c=fv K b sz d:=fun{k c} h=>by rw[J7]at h;split at h;cases h;rename_i hk;rcases R:gt x.Y.h k with _|d;simp[R]at h;simp[R]at h;exact⟨hk,d,rfl,h.symm⟩
 have Q:Mo x.Y.nx x ⟨x.Z,⟨dA K b sz x.Y.h,x.Y.nx⟩,a⟩:=by refine⟨fun k _ q=>⟨q,fun c g=>?_⟩,fun i row e r=>G i _ r fun h=>L.pU h r⟩;obtain⟨_,d,p,rfl⟩:=sub g;refine⟨d,p,by rw[Hj];exact zF _,fun _=>⟨rfl,fun l e s st h=>?_⟩⟩;subst h;exact⟨_,rfl⟩
 have zd:=fun u v h=>z87 (y:=⟨x.Z,⟨dA K b sz x.Y.h,x.Y.nx⟩,a⟩) (sz:=sz) N L Q a4 u v h;have V:∀{l:X U}{T:X I},aZ x l T->aZ ⟨x.Z,⟨dA K b sz x.Y.h,x.Y.nx⟩,a⟩ (k9 K b sz l) T:=fun{l T} h=>⟨Lw N L Q a4 l T h.1,by rw[Bc];exact h.2⟩;refine⟨⟨x.Z,⟨dA K b sz x.Y.h,x.Y.nx⟩,a⟩,a1,rfl,⟨fun k c g=>?_,fun k k' c c' i p q=>?_,a3⟩,fun i c g=>?_,V D,fun u v _ h=>Q.ke u v (aD.L5 _ _ h) h⟩;obtain⟨hk,d,p,rfl⟩:=sub g;obtain⟨q,z⟩:=A.ok k d p;refine⟨q,?_⟩;have H:∀i,x.Z k=some i->x.Z K≠some i:=fun i h h'=>hk<|A.inj k K d b i p N h h';cases d with
 |row l e=>obtain⟨k1,i,t,f,o,C⟩:=z;exact⟨ul _ _ _ _ k1,i,t,f,G i _ o<|H i f,V C⟩
 |vec l e s st=>obtain⟨k1,k2,z⟩:=z;refine⟨ul _ _ _ _ k1,k2,?_⟩;obtain⟨rfl,h4⟩|⟨i,t,f,o,C⟩:=z;exact .inl ⟨rfl,h4⟩;exact .inr ⟨i,t,f,G i _ o<|H i f,V C⟩
 |map J P=>obtain⟨i,es',f,o,C⟩:=z;refine⟨i,es',f,G i _ o<|H i f,by simp[C.1],fun j e D=>?_⟩;rw[vz]at D;rcases E:J[j]? with _|e0;simp[E]at D;simp[E]at D;subst D;obtain⟨v,q1,q2,q3,q4⟩:=C.2 j e0 E;exact⟨v,q1,Q.ke _ _ (aD.L5 _ _ q2) q2,zd _ _ q3,q4⟩
 obtain⟨_,d,g1,_⟩:=sub p;obtain⟨_,W,g2,_⟩:=sub q;exact A.inj k k' d W i g1 g2;obtain⟨p,q⟩:=M i c g;refine⟨G i c p<|q K b N,fun k d R=>?_⟩;obtain⟨_,W,g1,_⟩:=sub R;exact q k W g1
end Go.Vx
