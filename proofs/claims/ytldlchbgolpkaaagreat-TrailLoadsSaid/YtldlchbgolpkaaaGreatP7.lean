import Derived.CallsIn
import Derived.OrdersIn
import Derived.Test.YtldlchbgolpkaaaGreatP6
set_option linter.all false
namespace Go.Vx
open Go Go.Rx
def eS(tm:V U)(d:M Tmp)(u:U):V U:=match d with
 |none=>tm|some d=>tm.set d u
variable{x:Cx}
variable{tm:V U}
def Fq{tv:V O}(h:bB x tm tv){u:U}{v:O}(hu:aD x u v)(d:M Tmp):bB x (eS tm d u) (LQ tv d v):=by rcases d with _|d;exact h;exact h.set d hu
structure St(F:Nat->lP->Prop)(x:Cx)(tm:V U)(tv:V O)(m:Nm)(w:PL)(a:Act):Prop where
 h:jY x
 fr:Fr F x
 e:bB x tm tv
 fits:fY m x.s w
 act:vX m x.s.nx tv a
def b7(P:H0)(f:FuncId)(args:V U)(X:Sg)(Q:U->Sg->Prop):Prop :=
 ∀F x vs m w cargs,x.X=X->jY x->Fr F x->bB x args vs->fY m x.s w->n7 m x.s.nx vs cargs->
  Calls P f cargs.toArray w fun e w₁=>∃y aK u v cv,e=.returned cv/\Q u y.X/\bG m x.s w aK y.s w₁/\eT aK y.s.nx v cv/\jY y/\Fr F y/\aD y u v/\Ke x.X.nx x y/\x.X.nx<=y.X.nx
def Mo.nx{x y:Cx}(h:Mo x.X.nx x y):x.X.nx<=y.X.nx:=by cases hn:x.X.nx with|zero=>omega|succ n=>have:=(h.ref n (by omega) (by omega)).1;omega
def T0(P:H0):Fi P nc:=fun f args s v bI h=>by simp[nc]at h
def OC(a:Act)(d:M Tmp)(v:O):(a.put d v).defers=a.defers:=by cases d<;>rfl
section
variable{P:H0}{T:Tb}(hT:kT P T){F:Nat->lP->Prop}{x:Cx}{tm:V U}{tv:V O}{m:Nm}{w:PL}{a:Act}
include hT
variable{next:Act->PL->Prop}
variable{Q:Exit->Act->PL->Prop}
def St.op(st:St F x tm tv m w a)(o:Oper){u:U}{X':Sg}(h:bO T x.X tm o.op=some (u,X'))
  (hn:∀y d8 aK w₁ bE,y.X=X'->St F y (eS tm o.dst u) d8 aK w₁ bE->bG m x.s w aK y.s w₁->Ke x.X.nx x y->x.X.nx<=y.X.nx->bE.defers=a.defers->next bE w₁):o.wp P a w next Q:=by have⟨v,y,h1,h2,h3,h4⟩:=Z6 st.h st.e h;refine SY hT (T0 P) st.fits st.act o h1 fun aK w₁ cv aS fU=>?_;exact hn y (LQ tv o.dst v) aK w₁ _ h2 ⟨h4.h,h4.fr F st.fr,Fq (h4.mo.ke.E st.e.bel st.e) h3 _,aS.fits,(st.act.ext aS.agree aS.nx).put fU o.dst⟩ aS h4.mo.ke h4.mo.nx (OC _ _ _)
def St.call(st:St F x tm tv m w a)(o:Oper){f:FuncId}{args:V U}(h:kN T tm o.op=some (f,args)){R:U->Sg->Prop}(lN:b7 P f args x.X R)
  (hn:∀y u d8 aK w₁ bE,R u y.X->St F y (eS tm o.dst u) d8 aK w₁ bE->bG m x.s w aK y.s w₁->Ke x.X.nx x y->x.X.nx<=y.X.nx->bE.defers=a.defers->next bE w₁):o.wp P a w next Q:=by have⟨vs,h1,h2⟩:=qzo st.e h;have⟨cargs,g1,g2⟩:=qvh hT st.act o w h1;unfold Oper.wp;rw[g1];show Calls P f _ w _;refine(lN F x vs m w cargs rfl st.h st.fr h2 st.fits g2).mono ?_;rintro e w₁ ⟨y,aK,u,v,cv,rfl,hR,aS,fU,hh,k9,xG,eC,lL⟩;exact hn y u (LQ tv o.dst v) aK w₁ _ hR ⟨hh,k9,Fq (eC.E st.e.bel st.e) xG _,aS.fits,(st.act.ext aS.agree aS.nx).put fU o.dst⟩ aS eC lL (OC _ _ _)
def St.nilq(st:St F x tm tv m w a)(o:Oper){t e ty:TypeId}{xo yo:EW}{b:D1}{l:V (V U)}(ho:o.op=.binOp .eql t xo yo ty)(hd:T.und t=some (.slice e))(hx:cB tm xo=some (.isl b l))(hy:cB tm yo=some .nils)
  (hn:∀(z:D1) y d8 aK w₁ bE,(z=true->l=[])->y.X=x.X->St F y (eS tm o.dst (.bool z)) d8 aK w₁ bE->bG m x.s w aK y.s w₁->Ke x.X.nx x y->x.X.nx<=y.X.nx->bE.defers=a.defers->next bE w₁):o.wp P a w next Q:=by
 have⟨vx,ex,rx⟩:=j6 st.e hx;have⟨vy,ey,ry⟩:=j6 st.e hy;simp[aD]at rx ry;subst ry;have key:∃z:D1,(z=true->l=[])/\BA T nc tv x.s o.op=some (.bool z,x.s):=by rw[ho];rcases rx with⟨hl,rfl |⟨r,rfl⟩⟩|⟨i,off,c,rfl,_⟩;exact⟨true,fun _=>hl,by simp[BA,j0,ex,ey,rD,wY,eqv,hd]⟩;exact⟨false,by simp,by simp[BA,j0,ex,ey,rD,wY,eqv,hd]⟩;exact⟨false,by simp,by simp[BA,j0,ex,ey,rD,wY,eqv,hd]⟩
 have⟨z,hz,rL⟩:=key;refine SY hT (T0 P) st.fits st.act o rL fun aK w₁ cv aS fU=>?_;exact hn z x (LQ tv o.dst (.bool z)) aK w₁ _ hz rfl ⟨st.h,st.fr,Fq st.e (by simp[aD]) _,aS.fits,(st.act.ext aS.agree aS.nx).put fU o.dst⟩ aS (Ke.refl _ _) (zF _) (OC _ _ _)
omit hT in
def St.skip(st:St F x tm tv m w a)(d:M Tmp):St F x (eS tm d (.tup [])) (LQ tv d undef) m w (a.put d undef):=
 ⟨st.h,st.fr,Fq st.e (by simp[aD];exact⟨[],rfl,by simp[cO],rfl⟩) _,st.fits,st.act.put (B7 fun _=>by simp[undef,ren,aE]) d⟩
end
def cX(aB:V Oper)(tm:V U)(o:Oper):M D1 :=
 match o.guard with
 |none=>some true|some (j,want)=>match C3 aB j with
  |none=>some false|some d=>match nth tm d with
   |some (.bool b)=>some (b==want)|some (.tup _)=>some false
   |_=>none
def B8{aB:V Oper}{tv:V O}(ht:bB x tm tv){o:Oper}{b:D1}(h:cX aB tm o=some b):Na aB tv o=b:=by
 unfold cX at h;unfold Na;rcases hg:o.guard with _|g;simp[hg]at h;simp[h];have⟨j,want⟩:=g;simp[hg]at h ⊢;rcases hd:C3 aB j with _|d;simp[hd]at h;simp[h];simp[hd,jD]at h ⊢;rcases hu:tm[d]? with _|u;simp[hu]at h;have⟨v,h1,h2⟩:=ht.get hu;rw[h1];cases u with
 |bool c=>simp[hu,zA]at h;simp[aD]at h2;subst h2;simp[h]|tup l=>simp[hu,zA]at h;simp[aD]at h2;obtain⟨vs,rfl,_⟩:=h2;simp[h]
 |_=>simp[hu]at h
def nO(ro:M Nat):Fence:={ Fence.wide with round:=ro }
variable{ro:M Nat}
variable{n:Nat}
variable{P:H0}
variable{w:PL}
def Dh{f:FuncId}{args:H2 O}{R:Ending->PL->Prop}(h:Calls P f args w R):CallsIn (nO ro) n P f args w R:=(callsIn_wide (n:=n)).2 h
def Mc{row:String}{args:H2 O}{R:O->PL->Prop}(h:Rows P row args w R):RowsIn (nO ro) n P row args w R:=fun c cs _=>by
 have⟨v,w',r,s⟩:=h c cs;exact⟨v,w',r,(stepsIn_wide (P:=P)).2 s⟩
def wx:(nO ro).depth.isSome=true->1<=n:=fun h=>by simp[nO,Fence.wide]at h
def Cm(f:FuncId):(nO ro).fn f:=trivial
def DT{o:Oper}{a:Act}{next:Act->PL->Prop}{Q:Exit->Act->PL->Prop}(ho:∀c,o.op≠.defer c)(h:o.wp P a w next Q):o.wpIn (nO ro) n P a w next Q:=by refine⟨fun _ _=>trivial,?_⟩;have e:o.semAt (nO ro).round a.eval=execOp a.eval o:=Oper.semAt_eq _ _ _ ho;rw[e];revert h;unfold Oper.wp;generalize (execOp a.eval o).run P w=r;intro h;unfold Oper.upon at h;split at h;exact h;exact h;exact h;exact⟨wx,Dh h⟩;exact⟨wx,Mc h⟩;exact h;exact h.elim
def v05{T:Tb}{X:Sg}{op:Op}{r:U×Sg}(h:bO T X tm op=some r):∀c,op≠.defer c:=by rintro c rfl;simp[bO,j4,qG,oY]at h
def Oc{T:Tb}{op:Op}{r:FuncId×V U}(h:kN T tm op=some r):∀c,op≠.defer c:=by rintro c rfl;simp[kN]at h
structure PG where
 prog:H0
 nb:Nat
 G:Cx->Nm->PL->Prop
 ro:M Nat->Prop
 mks:D1
 st:∀{x y:Cx}{m m':Nm}{w w':PL},G x m w->fY m x.s w->bG m x.s w m' y.s w'->Ke nb x y->G y m' w'
abbrev PG.of(P:H0):PG:=⟨P,0,fun _ _ _=>True,fun _=>True,false,fun _ _ _ _=>trivial⟩
structure VI(C:PG)(n0:Nat)(x:Cx)(m:Nm)(w:PL):Prop where
 nb:C.nb<=n0
 g:C.G x m w
variable{m:Nm}
variable{m':Nm}
variable{w':PL}
def VI.adv{C:PG}{n0:Nat}{y:Cx}(h:VI C n0 x m w)(hf:fY m x.s w)(ha:bG m x.s w m' y.s w')(hk:Ke n0 x y):VI C n0 y m' w':=⟨h.nb,C.st h.g hf ha (hk.le h.nb)⟩
def qm(b0:Nat)(w:PL)(ds:V Deferred):Prop:=b0<=w.heap.size/\∃bs:V Nat,bs.Nodup/\ds=bs.map (fun b=>{ target:=.collected b,args:=#[] })/\∀b∈bs,b0<=b/\w.heap[b]? = some (.deferred (some []))
variable{s:S}
def za4(hf:fY m s w){b:Nat}{o:Obj}(h:w.heap[b]? = some o)(ho:∀c e f,o≠.cells c e f)(ho2:∀q c,o≠.map q c):¬ N7 m s b:=by
 rintro⟨i,c,h1,h2,rfl⟩;have:=hf.fits.ok i c h1;rcases c with⟨l,e,md⟩|⟨es,cl⟩;simp[uY]at this
 match md,this with
 |0,hr=>simp[wX]at hr;rw[hr.2]at h;exact ho _ _ _ (Option.some.inj h).symm|1,hr=>simp[Own]at h2
 |n+2,hr=>simp[wX]at hr;have⟨_,_,hr,_⟩:=hr;rw[hr]at h;exact ho _ _ _ (Option.some.inj h).symm
 simp[uY]at this;rw[this]at h;exact ho2 _ _ (Option.some.inj h).symm
def RR{s':S}(hf:fY m s w)(ha:bG m s w m' s' w'){b:Nat}{o:Obj}(h:w.heap[b]? = some o)(ho:∀c e f,o≠.cells c e f)(ho2:∀q c,o≠.map q c):w'.heap[b]? = some o:=by rw[ha.same b (Array.getElem?_eq_some_iff.1 h).1 (za4 hf h ho ho2)];exact h
def qm.adv{b0:Nat}{s':S}{ds:V Deferred}(h:qm b0 w ds)(hf:fY m s w)(ha:bG m s w m' s' w'):qm b0 w' ds:=by have⟨h0,bs,h1,h2,h3⟩:=h;exact⟨Nat.le_trans h0 ha.size,bs,h1,h2,fun b hb=>⟨(h3 b hb).1,RR hf ha (h3 b hb).2 (by simp) (by simp)⟩⟩
structure DR(C:PG)(b0:Nat)(ds:V Deferred)(w':PL)(ds':V Deferred):Prop where
 eq:C.mks=false->ds'=ds
 ok:C.mks=true->qm b0 w' ds'
def DR.trans{C:PG}{b0:Nat}{ds L9 ds2:V Deferred}{w1 w2:PL}(h:DR C b0 ds w1 L9)(g:DR C b0 L9 w2 ds2):DR C b0 ds w2 ds2:=⟨fun hk=>(g.eq hk).trans (h.eq hk),g.ok⟩
def DR.here{C:PG}{b0:Nat}{ds L9:V Deferred}{w1:PL}(h:DR C b0 ds w1 L9):DR C b0 L9 w1 L9:=⟨fun _=>rfl,h.ok⟩
def DR.adv{C:PG}{b0:Nat}{ds L9:V Deferred}{m:Nm}{s:S}{w:PL}{m':Nm}{s':S}{w':PL}(h:DR C b0 ds w L9)(hf:fY m s w)(ha:bG m s w m' s' w'):DR C b0 ds w' L9:=⟨h.eq,fun hk=>(h.ok hk).adv hf ha⟩
def DP(C:PG)(X:Sg)(tm:V U)(o:Oper)(R:U->Sg->Prop):Prop :=
 ∀(F:Nat->lP->Prop)(x:Cx)(tv:V O)(m:Nm)(w:PL)(a:Act)(next:Act->PL->Prop)(Q:Exit->Act->PL->Prop),x.X=X->St F x tm tv m w a->VI C x.X.nx x m w-> (∀u y d8 aK w₁ bE,R u y.X->St F y (eS tm o.dst u) d8 aK w₁ bE->bG m x.s w aK y.s w₁->Ke x.X.nx x y->x.X.nx<=y.X.nx->bE.defers=a.defers->next bE w₁)->∀ro,C.ro ro->o.wpIn (nO ro) 0 C.prog a w next Q
def RU(C:PG)(T:Tb)(aB:V Oper):V Oper->V U->Sg->(V U->Sg->Prop)->Prop
 |[],tm,X,K=>K tm X|o::r,tm,X,K=>(cX aB tm o=some true/\∃u X',bO T X tm o.op=some (u,X')/\RU C T aB r (eS tm o.dst u) X' K)\/ (cX aB tm o=some true/\∃f args R,kN T tm o.op=some (f,args)/\b7 C.prog f args X R/\∀u X',R u X'->RU C T aB r (eS tm o.dst u) X' K)\/ (cX aB tm o=some false/\RU C T aB r (eS tm o.dst (.tup [])) X K)\/ (cX aB tm o=some true/\∃t xo yo ty e b l,o.op=.binOp .eql t xo yo ty/\T.und t=some (.slice e)/\cB tm xo=some (.isl b l)/\cB tm yo=some .nils/\∀z:D1,(z=true->l=[])->RU C T aB r (eS tm o.dst (.bool z)) X K)\/ (cX aB tm o=some true/\∃R,DP C X tm o R/\∀u X',R u X'->RU C T aB r (eS tm o.dst u) X' K)
def Ki(C:PG)(n0:Nat)(F:Nat->lP->Prop)(x:Cx)(m:Nm)(w:PL)(ds:V Deferred)(b0:Nat)(Q:Exit->V U->Sg->Prop):Exit->Act->PL->Prop:=fun e a' w'=>
 ∃y tm' d8 m',Q e tm' y.X/\St F y tm' d8 m' w' a'/\bG m x.s w m' y.s w'/\Ke n0 x y/\n0<=y.X.nx/\DR C b0 ds w' a'.defers
def WPU(C:PG)(n0:Nat)(c:Code)(tm:V U)(X:Sg)(Q:Exit->V U->Sg->Prop):Prop :=
 n0<=X.nx->∀F x tv m w a b0,x.X=X->St F x tm tv m w a->VI C n0 x m w->DR C b0 a.defers w a.defers->∀ro,C.ro ro->c.wpIn (nO ro) 0 C.prog (Ki C n0 F x m w a.defers b0 Q) a w
section
variable{C:PG}{n0:Nat}{Q:Exit->V U->Sg->Prop}{tm:V U}{X:Sg}
def C1(K:V U->Sg->Prop)(Q:Exit->V U->Sg->Prop):Exit->V U->Sg->Prop
 |.normal,tm,s=>K tm s|e,tm,s=>Q e tm s
def WPU.seq{p q:Code}(h:WPU C n0 p tm X (C1 (fun tm X=>WPU C n0 q tm X Q) Q)):WPU C n0 (.seq p q) tm X Q:=fun hn F x tv m w a b0 hx st hG hd ro kH=>by
 refine wpIn_seq (wpIn_mono (h hn F x tv m w a b0 hx st hG hd ro kH) ?_);rintro e a' w' ⟨y,tm',d8,m',h1,h2,h3,h4,h5,h6⟩;cases e with
 |normal=>apply wpIn_mono (h1 h5 F y d8 m' w' a' b0 rfl h2 (hG.adv st.fits h3 h4) h6.here ro kH);rintro e a'' w'' ⟨z,jG,tv'',m'',g1,g2,g3,g4,g5,g6⟩;exact⟨z,jG,tv'',m'',g1,g2,h3.trans g3,h4.trans g4,g5,h6.trans g6⟩
 |_=>exact⟨y,tm',d8,m',h1,h2,h3,h4,h5,h6⟩
def WPU.skip(h:Q .normal tm X):WPU C n0 .skip tm X Q:=fun hn F x tv m w a b0 hx st hG hd ro kH=>wpIn_skip ⟨x,tm,tv,m,hx ▸ h,st,bG.refl st.fits,Ke.refl _ _,hx ▸ hn,hd⟩
def WPU.ret(h:Q .ret tm X):WPU C n0 .ret tm X Q:=fun hn F x tv m w a b0 hx st hG hd ro kH=>wpIn_ret ⟨x,tm,tv,m,hx ▸ h,st,bG.refl st.fits,Ke.refl _ _,hx ▸ hn,hd⟩
def WPU.exit{id:Nat}(h:Q (.exit id) tm X):WPU C n0 (.exit id) tm X Q:=fun hn F x tv m w a b0 hx st hG hd ro kH=>wpIn_exit ⟨x,tm,tv,m,hx ▸ h,st,bG.refl st.fits,Ke.refl _ _,hx ▸ hn,hd⟩
def WPU.cond{c:EW}{p q:Code}{t:D1}(hc:cB tm c=some (.bool t))(h1:t=true->WPU C n0 p tm X Q)(h2:t=false->WPU C n0 q tm X Q):WPU C n0 (.cond c p q) tm X Q:=fun hn F x tv m w a b0 hx st hG hd ro kH=>by
 have⟨v,e1,e2⟩:=j6 st.e hc;simp[aD]at e2;subst e2;have he:=(st.act.evalO e1).at;simp[ren]at he;rcases t with _|_;exact wpIn_cond_false he.symm (h2 rfl hn F x tv m w a b0 hx st hG hd ro kH);exact wpIn_cond_true he.symm (h1 rfl hn F x tv m w a b0 hx st hG hd ro kH)
def C5(id:Nat)(Q:Exit->V U->Sg->Prop):Exit->V U->Sg->Prop
 |.exit id',tm,s=>if id'=id then Q .normal tm s else Q (.exit id') tm s|e,tm,s=>Q e tm s
def aU{id:Nat}{c:Code}(h:WPU C n0 c tm X (C5 id Q)):WPU C n0 (.block id c) tm X Q:=fun hn F x tv m w a b0 hx st hG hd ro kH=>by
 refine wpIn_block (wpIn_mono (h hn F x tv m w a b0 hx st hG hd ro kH) ?_);rintro e a' w' ⟨y,tm',d8,m',h1,h2⟩;cases e with
 |exit id'=>simp[Exit.inBlock];simp[C5]at h1;by_cases KA:id'=id;simp[KA,if_true]at h1 ⊢;exact⟨y,tm',d8,m',h1,h2⟩;simp[KA,if_false]at h1 ⊢;exact⟨y,tm',d8,m',h1,h2⟩|_=>exact⟨y,tm',d8,m',h1,h2⟩
def WPU.loop{c:Code}(v08:Nat->V U->Sg->Prop)(n:Nat)(h₀:v08 n tm X)(round:∀n tm X,v08 n tm X->WPU C n0 c tm X (C1 (fun tm' X'=>∃n',n'<n/\v08 n' tm' X') Q)):WPU C n0 (.loop c) tm X Q:=by
 intro hn F x tv m w a b0 hx st hG hd ro kH b k cs hbr hb hr;have key:∀n tm X,v08 n tm X->n0<=X.nx->∀x tv m w a,x.X=X->St F x tm tv m w a->VI C n0 x m w->DR C b0 a.defers w a.defers->∃e a' w',Ki C n0 F x m w a.defers b0 Q e a' w'/\ArrivesIn (Machine.fenced C.prog (nO ro)) C.prog (lone (b.atR a (.code c :: .inLoop c::k)) cs w) b k cs e a' w':=by
  intro n;induction n using Nat.strongRecOn with
  |_ n ih=>
   intro tm X hI hn x tv m w a hx st hG hd;obtain⟨e,bE,w₁,⟨y,vR,vQ,aK,hq,cK,aS,eC,lL,j7⟩,AH⟩:=round n tm X hI hn F x tv m w a b0 hx st hG hd ro kH b (.inLoop c::k) cs hbr hb hr;cases e with
   |normal=>have⟨n',aF,hI'⟩:=hq;obtain⟨e₂,a₂,mO,⟨z,Lu,Lt,C7,Uq,Ad,PM,Au,Ai,Be⟩,PK⟩:=ih n' aF vR y.X hI' lL y vQ aK w₁ bE rfl cK (hG.adv st.fits aS eC) j7.here;exact⟨e₂,a₂,mO,⟨z,Lu,Lt,C7,Uq,Ad,aS.trans PM,eC.trans Au,Ai,j7.trans Be⟩,.of_steps (StepsIn.trans AH (.one (fenced_calm hb hr rfl) stepR_inLoop)) PK⟩
   |exit id=>exact⟨_,bE,w₁,⟨y,vR,vQ,aK,hq,cK,aS,eC,lL,j7⟩,.pass (x:=.inLoop c) rfl (fun _ _=>.inl (by simp)) AH⟩|goto l=>exact⟨_,bE,w₁,⟨y,vR,vQ,aK,hq,cK,aS,eC,lL,j7⟩,.pass (x:=.inLoop c) rfl (fun _ _=>.inl (by simp)) AH⟩
   |ret=>exact⟨_,bE,w₁,⟨y,vR,vQ,aK,hq,cK,aS,eC,lL,j7⟩,.pass (x:=.inLoop c) rfl (fun _ _=>.inl (by simp)) AH⟩|panic ch=>exact⟨_,bE,w₁,⟨y,vR,vQ,aK,hq,cK,aS,eC,lL,j7⟩,.pass (x:=.inLoop c) rfl (fun _ _=>.inl (by simp)) AH⟩
   |outgrown=>exact⟨_,bE,w₁,⟨y,vR,vQ,aK,hq,cK,aS,eC,lL,j7⟩,.pass (x:=.inLoop c) rfl (fun _ _=>.inl (by simp)) AH⟩
 have⟨e,a',w',hq,AH⟩:=key n tm X h₀ hn x tv m w a hx st hG hd;exact⟨e,a',w',hq,.of_steps (.one (fenced_calm hb hr rfl) stepR_loop) AH⟩
def Gh(n0:Nat)(tm:V U)(X:Sg)(tm':V U)(X':Sg):Prop :=
 ∀F x tv,x.X=X->jY x->Fr F x->bB x tm tv->∃y,(∀m w,fY m x.s w->bG m x.s w m y.s w)/\y.X=X'/\jY y/\Fr F y/\bB y tm' tv/\Ke n0 x y
def Gh.refl(n0:Nat)(tm:V U)(X:Sg):Gh n0 tm X tm X:=fun F x tv hx h hf he=>⟨x,fun m w hf=>bG.refl hf,hx,h,hf,he,Ke.refl _ _⟩
def Gh.trans{tm' jG:V U}{X' bT:Sg}(h:Gh n0 tm X tm' X')(h':Gh n0 tm' X' jG bT):Gh n0 tm X jG bT:=fun F x tv hx hh hf he=>by
 have⟨y,h1,h2,h3,h4,h5,h6⟩:=h F x tv hx hh hf he;have⟨z,g1,g2,g3,g4,g5,g6⟩:=h' F y tv h2 h3 h4 h5;exact⟨z,fun m w hf=>(h1 m w hf).trans (g1 m w (h1 m w hf).fits),g2,g3,g4,g5,h6.trans g6⟩
def c9{c:Code}{tm':V U}{X':Sg}(h:Gh n0 tm X tm' X')(uJ:n0<=X'.nx)(hw:WPU C n0 c tm' X' Q):WPU C n0 c tm X Q:=fun hn F x tv m w a b0 hx st hG hd ro kH=>by
 have⟨y,h1,h2,h3,h4,h5,h6⟩:=h F x tv hx st.h st.fr st.e;have aS:=h1 m w st.fits;apply wpIn_mono (hw uJ F y tv m w a b0 h2 ⟨h3,h4,h5,aS.fits,st.act.ext aS.agree aS.nx⟩ (hG.adv st.fits aS h6) hd ro kH);rintro e a' w' ⟨z,jG,tv'',m'',g1,g2,g3,g4,g5,g6⟩;exact⟨z,jG,tv'',m'',g1,g2,aS.trans g3,h6.trans g4,g5,g6⟩
def WPU.after{c:Code}{Q':Exit->V U->Sg->Prop}(h:WPU C n0 c tm X Q')(hq:∀e tm X,n0<=X.nx->Q' e tm X->∃tm' X',n0<=X'.nx/\Gh n0 tm X tm' X'/\Q e tm' X'):WPU C n0 c tm X Q:=fun hn F x tv m w a b0 hx st hG hd ro kH=>by
 apply wpIn_mono (h hn F x tv m w a b0 hx st hG hd ro kH);rintro e a' w' ⟨y,tm',d8,m',h1,h2,h3,h4,h5,h6⟩;have⟨jG,bT,q1,q2,q3⟩:=hq e tm' y.X h5 h1;have⟨z,g1,g2,g3,g4,g5,g6⟩:=q2 F y d8 rfl h2.h h2.fr h2.e;have aS:=g1 m' w' h2.fits;exact⟨z,jG,d8,m',g2 ▸ q3,⟨g3,g4,g5,aS.fits,h2.act.ext aS.agree aS.nx⟩,h3.trans aS,h4.trans g6,g2 ▸ q1,h6⟩
variable{T:Tb}(hT:kT C.prog T)
include hT
def Eg(aB:H2 Oper)(E:Exit->Act->PL->Prop){F:Nat->lP->Prop}{x0:Cx}{m0:Nm}{w0:PL}{df:V Deferred}(K:V U->Sg->Prop)(CY:VI C n0 x0 m0 w0)(uL:fY m0 x0.s w0)(ro:M Nat)(kH:C.ro ro):
  ∀(rest:V Oper)(i:Nat),aB.toList.drop i=rest->∀(x:Cx)(tm:V U)(tv:V O)(m:Nm)(w:PL)(a:Act),St F x tm tv m w a->a.defers=df->bG m0 x0.s w0 m x.s w->Ke n0 x0 x->n0<=x.X.nx->RU C T aB.toList rest tm x.X K-> (∀y tm' d8 m' w' a',K tm' y.X->St F y tm' d8 m' w' a'->bG m0 x0.s w0 m' y.s w'->Ke n0 x0 y->n0<=y.X.nx->a'.defers=df->E .normal a' w')->wpOpsIn (nO ro) 0 C.prog aB E (List.range' i rest.length) a w
 |[],i,_,x,tm,tv,m,w,a,st,hd,aS,eC,hn,h,hQ=>by simp[zS,List.range'_zero,wpOpsIn];exact hQ x tm tv m w a h st aS eC hn hd
 |o::rest,i,HL,x,tm,tv,m,w,a,st,hd,aS,eC,hn,h,hQ=>by
  have ho:aB[i]? = some o:=by have:=congrArg (fun l=>l[0]?) HL;simpa using this
  have bF:aB.toList.drop (i+1)=rest:=by have:=congrArg List.tail HL;simpa using this
  simp[zO,List.range'_succ,wpOpsIn,ho,ja (st.act m (aI.refl _ _)) aB o];simp only[RU]at h;rcases h with⟨hw,u,X',h1,h2⟩|⟨hw,f,args,R,h1,h2,h3⟩|⟨hw,h1⟩|⟨hw,t,xo,yo,ty,e,b,l,h1,h2,h3,h4,h5⟩|⟨hw,R,h1,h2⟩;rw[B8 st.e hw];simp[if_true];refine DT (v05 h1) (st.op hT o h1 fun y d8 aK w₁ bE e1 cD bP dA lL j7=>?_);exact Eg aB E K CY uL ro kH rest (i+1) bF y _ d8 aK w₁ bE cD (j7.trans hd) (aS.trans bP) (eC.trans (dA.le hn)) (by omega) (e1 ▸ h2) hQ;rw[B8 st.e hw];simp[if_true];refine DT (Oc h1) (st.call hT o h1 h2 fun y u d8 aK w₁ bE hR cD bP dA lL j7=>?_);exact Eg aB E K CY uL ro kH rest (i+1) bF y _ d8 aK w₁ bE cD (j7.trans hd) (aS.trans bP) (eC.trans (dA.le hn)) (by omega) (h3 u y.X hR) hQ;rw[B8 st.e hw];simp[Bool.false_eq_true,if_false];exact⟨fun _ _=>trivial,Eg aB E K CY uL ro kH rest (i+1) bF x _ _ m w _ (st.skip o.dst) ((OC _ _ _).trans hd) aS eC hn h1 hQ⟩;rw[B8 st.e hw];simp[if_true];refine DT (by rw[h1];intro c hc;cases hc) (st.nilq hT o h1 h2 h3 h4 fun z y d8 aK w₁ bE hz e1 cD bP dA lL j7=>?_);exact Eg aB E K CY uL ro kH rest (i+1) bF y _ d8 aK w₁ bE cD (j7.trans hd) (aS.trans bP) (eC.trans (dA.le hn)) (by omega) (e1 ▸ h5 z hz) hQ;rw[B8 st.e hw];simp[if_true];refine h1 F x tv m w a _ _ rfl st ⟨Nat.le_trans CY.nb hn,(CY.adv uL aS eC).g⟩ (fun u y d8 aK w₁ bE hR cD bP dA lL j7=>?_) ro kH;exact Eg aB E K CY uL ro kH rest (i+1) bF y _ d8 aK w₁ bE cD (j7.trans hd) (aS.trans bP) (eC.trans (dA.le hn)) (by omega) (h2 u y.X hR) hQ
def WPU.region{id:Nat}{aB:H2 Oper}(h:RU C T aB.toList aB.toList tm X (fun tm' X'=>Q .normal tm' X')):WPU C n0 (.region id aB false) tm X Q:=fun hn F x tv m w a b0 hx st hG hd ro kH=>by
 subst hx;refine wpIn_region ?_;have:=Eg hT aB (Ki C n0 F x m w a.defers b0 Q) (F:=F) (x0:=x) (m0:=m) (w0:=w) (df:=a.defers) (fun tm' X'=>Q .normal tm' X') hG st.fits ro kH aB.toList 0 (by simp) x tm tv m w a st rfl (bG.refl st.fits) (Ke.refl _ _) hn h
  (fun y tm' d8 m' w' a' h1 h2 h3 h4 h5 h6=>⟨y,tm',d8,m',h1,h2,h3,h4,h5,by rw[h6];exact hd.adv st.fits h3⟩)
 rw[List.range_eq_range'];simpa using this
end
def oE(T:Tb)(X:Sg)(tm:V U):V ResultVar->M (V U)
 |[]=>some []|.tmp t::r=>match nth tm t with
  |some v=>(match oE T X tm r with
   |some l=>some (v::l)|none=>none)
  |none=>none
 |.cell a t::r=>match qG T X tm (.load t (.tmp a))with
  |some v=>(match oE T X tm r with
   |some l=>some (v::l)|none=>none)
  |none=>none
def nM:V U->U
 |[v]=>v|l=>.tup l
def Fm{T:Tb}{x:Cx}(hx:jY x){tm:V U}{tv:V O}(ht:bB x tm tv):∀{rs:V ResultVar}{us:V U},oE T x.X tm rs=some us->∃vs,EN T tv x.s rs=some vs/\bB x us vs
 |[],us,h=>by simp[oE,zA]at h;subst h;exact⟨[],rfl,bB.nil x⟩
 |.tmp t::rs,us,h=>by simp[oE,jD]at h;rcases h1:tm[t]? with _|u;simp[h1]at h;rcases h2:oE T x.X tm rs with _|l;simp[h1,h2]at h;simp[h1,h2,zA]at h;subst h;have⟨v,e1,e2⟩:=ht.get h1;have⟨vs,e3,e4⟩:=Fm hx ht h2;exact⟨v::vs,by simp[EN,jD,e1,e3],bB.cons e2 e4⟩
 |.cell a t::rs,us,h=>by
  simp[oE]at h;rcases h1:qG T x.X tm (.load t (.tmp a))with _|u;simp[h1]at h;rcases h2:oE T x.X tm rs with _|l;simp[h1,h2]at h;simp[h1,h2,zA]at h;subst h;have⟨v,y,e1,e2,e3,e4⟩:=z1b hx ht h1;have⟨vs,e5,e6⟩:=Fm hx ht h2;have hp:j0 T tv (.load t (.tmp a))=none:=rfl;have he:uD T tv x.s (.load t (.tmp a))=none:=rfl;have hc:callOf T tv (.load t (.tmp a))=none:=rfl;unfold BA at e1;simp[hp,he,hc]at e1;rcases xH:o4 T tv x.s (.load t (.tmp a))with _|v';simp[xH]at e1;simp[xH,zA,zB]at e1;have⟨rfl,hs⟩:=e1;refine⟨v'::vs,by simp[EN,xH,e5],bB.cons ?_ e6⟩;have gI:Mo y.X.nx y x:=by refine⟨fun k hk vF=>?_,fun i row e hl=>by rw[hs];exact hl⟩;rw[e2]at vF ⊢;refine⟨vF,fun b hb=>⟨b,hb,zF _,fun _=>⟨?_,fun l e sz st h=>⟨l,h⟩⟩⟩⟩;have:=(e4.mo.ref k (by rw[<-e2];exact hk) vF).2 b (by rw[e2];exact hb);have⟨b',q1,q2,q3⟩:=this;rw[hb]at q1;cases q1;exact(q3 rfl).1.symm
  exact gI.ke u _ (aD.bel _ _ e3) e3
def v00{us:V U}{vs:V O}(h:bB x us vs):aD x (nM us) (sC vs):=by
 match us,vs,h with
 |[],vs,h=>rw[h.nil_inv];simp only[nM,sC,aD];exact⟨[],rfl,by simp[cO],rfl⟩|[u],vs,h=>obtain⟨v,rZ,rfl,h1,h2⟩:=h.inv;rw[h2.nil_inv];exact h1
 |u::u'::us,vs,h=>obtain⟨v,rZ,rfl,h1,h2⟩:=h.inv;obtain⟨v',vs'',rfl,h3,h4⟩:=h2.inv;simp only[nM,sC,aD];exact⟨_,rfl,h.1,h.2⟩
def AX:Nat->V U->V U
 |0,l=>l|n+1,[]=>.tup []::AX n []
 |n+1,v::l=>v::AX n l
def XS{x:Cx}:∀(n:Nat){us:V U}{vs:V O},bB x us vs->bB x (AX n us) (pad n vs)
 |0,us,vs,h=>h|n+1,[],vs,h=>by rw[h.nil_inv];exact bB.cons (by simp[aD];exact⟨[],rfl,by simp[cO],rfl⟩) (XS n (bB.nil x))
 |n+1,u::us,vs,h=>by obtain⟨v,rZ,rfl,h1,h2⟩:=h.inv;exact bB.cons h1 (XS n h2)
section
variable{P:H0}{T:Tb}(hT:kT P T)
include hT
def Ed{f:FuncId}{fn:Func}{c:Code}{args:V U}{X:Sg}{R:U->Sg->Prop}(hf:T.fn f=some fn)(hb:fn.body=some c)
  (h:WPU (PG.of P) X.nx c (AX fn.ntmps args) X fun e tm' X'=>(e=.normal\/e=.ret)/\∃l,oE T X' tm' fn.results.toList=some l/\∃u' bT,X.nx<=bT.nx/\Gh X.nx [nM l] X' [u'] bT/\R u' bT):b7 P f args X R:=fun F x vs m w cargs hx hh k9 he dR bW=>by
 have⟨uL,_⟩:=hT.fn f fn hf;have eZ:cargs.length=vs.length:=by rw[<-bW.at];simp
 apply calls_of_wp uL hb;have xQ:vX m x.s.nx (pad fn.ntmps vs) { tmps:=cargs.toArray++Array.replicate (fn.ntmps-cargs.toArray.size) undef,defers:=[] }:=fun m' eF=>by simp only[Mk,x3,bW m' eF,eZ,List.size_toArray];apply Array.ext';simp[kE,ren,undef]
 apply wp_mono ((wpIn_wide (n:=0)).1 (h (zF _) F x _ m w _ 0 hx ⟨hh,k9,XS _ he,dR,xQ⟩ ⟨Nat.zero_le _,trivial⟩ ⟨fun _=>rfl,fun h=>by cases h⟩ none trivial));rintro e a' w' ⟨y,tm',d8,m',⟨uM,l,mD,u',bT,lL,KD,hR⟩,cD,aS,eC,hn,hdf0⟩;have j7:a'.defers=[]:=hdf0.eq rfl;have⟨ls,tO,wC⟩:=Fm cD.h cD.e mD;have cR:∀m'',aI y.s.nx m' m''->(results fn a'.tmps).run P w'=.ok (ren m'' (sC ls)) w':=fun m'' jB=>by rw[cD.act m'' jB];exact Om hT (cD.fits m'' jB) tO
 have fU:eT m' y.s.nx (sC ls) (ren m' (sC ls)):=fun m'' jB=>by have e1:=cR m'' jB;rw[cR m' (aI.refl _ _)]at e1;simp at e1;exact e1.symm
 have⟨z,z1,z2,z3,z4,z5,z6⟩:=KD F y [sC ls] rfl cD.h cD.fr (bB.cons (v00 wC) (bB.nil y));have⟨v0,VV,e0,z7,_⟩:=z5.inv;cases e0;have cW:=z1 m' w' cD.fits;have wD:bodyPost P fn (fun e w₁=>∃y aK u v cv,e=.returned cv/\R u y.X/\bG m x.s w aK y.s w₁/\eT aK y.s.nx v cv/\jY y/\Fr F y/\aD y u v/\Ke x.X.nx x y/\x.X.nx<=y.X.nx) .ret a' w' :=
  ⟨j7,_,cR m' (aI.refl _ _),z,m',u',sC ls,_,rfl,z2 ▸ hR,aS.trans cW,fU.ext (aI.refl _ _) cW.nx,z3,z4,z7,hx ▸ eC.trans z6,by rw[hx,z2];exact lL⟩
 rcases uM with rfl |rfl;exact wD;exact wD
end
def b7.mono{P:H0}{f:FuncId}{args:V U}{X:Sg}{R R':U->Sg->Prop}(h:b7 P f args X R)(hr:∀u X',R u X'->R' u X'):b7 P f args X R':=fun F x vs m w cargs hx hh k9 he dR bW=>
 (h F x vs m w cargs hx hh k9 he dR bW).mono fun _ _ ⟨y,aK,u,v,cv,h1,h2,h3⟩=>⟨y,aK,u,v,cv,h1,hr _ _ h2,h3⟩
end Go.Vx
namespace Go.Vx
open Go Go.Rx
def b7.pure{P:H0}{f:FuncId}{args:V U}{R:U->Prop}(h:b7 P f args ⟨[],0⟩ (fun u _=>R u/\bA 0 u))(ha:aM 0 args)(X:Sg):b7 P f args X (fun u X'=>R u/\X'=X):=fun F x vs m w cargs hx hh k9 he dR bW=>by
 have h0:jY ⟨fun _=>none,⟨[],0⟩,x.s⟩:=⟨fun k b hb=>by simp[gt]at hb,fun k k' b b' i hb=>by simp[gt]at hb,hh.bd⟩;have hm0:Mo 0 x ⟨fun _=>none,⟨[],0⟩,x.s⟩:=⟨fun k hk=>by omega,fun _ _ _ h=>h⟩;refine(h (fun i b=>lk x.s.h i=some b) ⟨fun _=>none,⟨[],0⟩,x.s⟩ vs m w cargs rfl h0 (fun i b hb=>⟨hb,fun k c hc=>by simp[gt]at hc⟩) (hm0.ke.E ha he) dR bW).mono ?_;rintro e w₁ ⟨y,aK,u,v,cv,rfl,⟨hR,eZ⟩,aS,fU,Vm,xL,xG,_,_⟩;have gI:Mo x.X.nx x ⟨x.Y,x.X,y.s⟩:=⟨fun k _ h2=>⟨h2,fun b hb=>⟨b,hb,zF _,fun _=>⟨rfl,fun l e sz st h=>⟨l,h⟩⟩⟩⟩,fun i row e hl=>(xL i _ hl).1⟩;have hm1:Mo 0 y ⟨x.Y,x.X,y.s⟩:=⟨fun k hk=>by omega,fun _ _ _ h=>h⟩;refine⟨⟨x.Y,x.X,y.s⟩,aK,u,v,cv,rfl,⟨hR,hx⟩,aS,fU,⟨fun k b hb=>?_,hh.inj,Vm.bd⟩,fun i b hb=>?_,hm1.ke u v eZ xG,gI.ke,zF _⟩;have⟨h1,h2⟩:=hh.ok k b hb;exact⟨h1,h2.mono gI rfl fun i c _ hl=>(xL i c hl).1⟩;have⟨h1,h2⟩:=k9 i b hb;exact⟨(xL i b h1).1,h2⟩
def BelB(n:Nat):B->Prop
 |.row l _=>aM n l|.vec l _ _ _=>aM n l
 |.map es _=>∀e∈es,bA n e.key/\bA n e.val
def GN(n:Nat):V (Nat×B)->Prop
 |[]=>True|(_,b)::h=>BelB n b/\GN n h
def cut(n:Nat):V (Nat×B)->V (Nat×B)
 |[]=>[]|(k,b)::h=>cond (Nat.blt k n) ((k,b)::cut n h) (cut n h)
def Ff(n:Nat)(h:V (Nat×B))(k:Nat):gt (cut n h) k=if k<n then gt h k else none:=by induction h with|nil=>simp[cut,gt]|cons p h ih=>have⟨j,b⟩:=p;simp[cut];by_cases hj:j<n;rw[rG hj];simp[zC,eN,ih];by_cases AC:j=k;subst AC;simp[hj];simp[AC];rw[MC hj];simp[zD,eN,ih];by_cases AC:j=k;subst AC;simp[hj];simp[AC]
def z8t{n:Nat}{h:V (Nat×B)}(hb:GN n h){k:Nat}{b:B}(hg:gt h k=some b):BelB n b:=by induction h with|nil=>simp[gt]at hg|cons p h ih=>have⟨j,c⟩:=p;simp[GN]at hb;simp[eN]at hg;split at hg;cases hg;exact hb.1;exact ih hb.2 hg
def oB.monoB{n:Nat}{x y:Cx}{k:Nat}{b:B}(h:oB x k b)(hb:BelB n b)(hm:Mo n x y)(k8:y.Y k=x.Y k)(hl:∀i c,x.Y k=some i->lk x.s.h i=some c->lk y.s.h i=some c):oB y k b:=by
 cases b with
 |row l e=>have⟨k1,i,l',e1,e2,e3⟩:=h;exact⟨k1,i,l',by rw[k8,e1],hl _ _ e1 e2,hm.ke.E hb e3⟩
 |vec l e sz st=>have⟨k1,k2,h3⟩:=h;refine⟨k1,k2,?_⟩;rcases h3 with⟨h3,h4⟩|⟨i,l',e1,e2,e3⟩;exact .inl ⟨h3,by rw[k8,h4]⟩;exact .inr ⟨i,l',by rw[k8,e1],hl _ _ e1 e2,hm.ke.E hb e3⟩
 |map es cl=>have⟨i,es',e1,e2,e3⟩:=h;refine⟨i,es',by rw[k8,e1],hl _ _ e1 e2,e3.1,fun j e he=>?_⟩;have⟨v,q1,q2,q3,q4⟩:=e3.2 j e he;have:=hb e (zX he);exact⟨v,q1,hm.ke _ _ this.1 q2,hm.ke _ _ this.2 q3,q4⟩
def B4:V D1->V U->V U
 |true::l,_::tm=>.junk::B4 l tm|false::l,u::tm=>u::B4 l tm
 |_,tm=>tm
def dp{x:Cx}:∀(l:V D1){tm:V U}{tv:V O},bB x tm tv->bB x (B4 l tm) tv
 |[],tm,tv,h=>by cases tm<;>exact h
 |true::l,[],tv,h=>h|false::l,[],tv,h=>h
 |true::l,u::tm,tv,h=>by obtain⟨v,vs,rfl,h1,h2⟩:=h.inv;exact bB.cons (by simp[aD]) (dp l h2)
 |false::l,u::tm,tv,h=>by obtain⟨v,vs,rfl,h1,h2⟩:=h.inv;exact bB.cons h1 (dp l h2)
def Gh.junk(n0:Nat)(l:V D1)(tm:V U)(X:Sg):Gh n0 tm X (B4 l tm) X:=fun F x tv hx h hf he=>⟨x,fun m w hf=>bG.refl hf,hx,h,hf,dp l he,Ke.refl _ _⟩
def Gh.cut{n0 n1:Nat}{tm:V U}{X:Sg}(h1:n0<=n1)(h2:n1<=X.nx)(hb:aM n1 tm)(hh:GN n1 (Vx.cut n1 X.h)):Gh n0 tm X tm ⟨Vx.cut n1 X.h,n1⟩:=fun F x tv hx hr hf he=>by
 subst hx;have gI:Mo n1 x ⟨x.Y,⟨Vx.cut n1 x.X.h,n1⟩,x.s⟩:=by refine⟨fun k hk _=>⟨hk,fun b hb=>?_⟩,fun _ _ _ h=>h⟩;simp[Ff,hk,if_true]at hb;exact⟨b,hb,zF _,fun _=>⟨rfl,fun l e sz st h=>⟨l,h⟩⟩⟩
 have sub:∀{k b},gt (Vx.cut n1 x.X.h) k=some b->k<n1/\gt x.X.h k=some b:=fun{k b} hg=>by simp only[Ff]at hg;split at hg;exact⟨by assumption,hg⟩;cases hg
 refine⟨⟨x.Y,⟨Vx.cut n1 x.X.h,n1⟩,x.s⟩,fun m w hf=>bG.refl hf,rfl,⟨fun k b hg=>?_,fun k k' b b' i g1 g2=>hr.inj k k' b b' i (sub g1).2 (sub g2).2,hr.bd⟩,fun i b J=>?_,gI.ke.E hb he,gI.ke.le h1⟩;exact⟨(sub hg).1,(hr.ok k b (sub hg).2).2.monoB (z8t hh hg) gI rfl fun _ _ _ h=>h⟩;exact⟨(hf i b J).1,fun k c hc=>(hf i b J).2 k c (sub hc).2⟩
def z1l{l:V O}{i:Nat}{v:O}(h:l[i]? = some v):l.set i v=l:=by apply List.ext_getElem?;intro j;rw[List.getElem?_set];split;rename_i e;subst e;have:=(zG.1 h).1;simp only[this,if_true];exact h.symm;rfl
def Gh.nilvec{n0:Nat}{tm:V U}{X:Sg}(i:Nat)(e:TypeId)(sz:Nat)(dU:0<sz)(h0:n0<=X.nx)(hi:nth tm i=some .nils):Gh n0 tm X (tm.set i (.vl X.nx 0 0 0)) (newU X (.vec [] e sz 0)):=fun F x tv hx hr hf he=>by
 subst hx;have ho:=jd hr e sz dU;rw[jD]at hi;have⟨v,h1,h2⟩:=he.get hi;simp[aD]at h2;subst h2;refine⟨⟨mQ x.Y x.X.nx none,newU x.X (.vec [] e sz 0),x.s⟩,fun m w hf=>bG.refl hf,rfl,ho.h,ho.fr F hf,?_,ho.mo.ke.le h0⟩;have:=(ho.mo.ke.E he.bel he).set i (nl (x:=x) (e:=e) (sz:=sz) (o:=none) (by simp))
 rwa [z1l h1]at this
def bG.freeze{m:Nm}{s:S}{w:PL}(h:fY m s w){i:Nat}{l:V O}{e md e1:Nat}(hl:lk s.h i=some (.inl (l,e,md)))(qM:md=0/\e1=0\/∃sz,md=sz+2/\e1=sz+1):
  bG m s w m ⟨up s.h i (.inl (l,e1,1)),s.nx⟩ w:=by
 have old:∀j c,lk (up s.h i (.inl (l,e1,1))) j=some c->∃d,lk s.h j=some d/\(Own c=true->Own d=true)/\(j≠i->c=d):=fun j c hc=>by simp[B2]at hc;by_cases lM:i=j;subst lM;simp[if_true,hl,zM,zA]at hc;subst hc;exact⟨_,hl,fun h=>by simp[Own]at h,fun h=>absurd rfl h⟩;simp[lM,if_false]at hc;exact⟨c,hc,id,fun _=>rfl⟩
 refine⟨aI.refl _ _,zF _,fun m' ha=>?_,?_,fun _ _ _=>rfl,zF _,rfl,rfl,rfl⟩;have hf:=h m' ha;refine⟨fun j c hc=>?_,fun j k c d hc hd AC ho=>?_,fun j c hc=>?_⟩;by_cases lM:j=i;subst lM;simp[B2,if_true,hl,zM,zA]at hc;subst hc;have hr:wX m' j l e w md:=hf.ok j _ hl;rcases qM with⟨rfl,rfl⟩|⟨sz,rfl,rfl⟩;have⟨h0,h1⟩:=hr;exact⟨_,_,_,h1,fun k v hk=>by simp[h0,kE,hk],fun n hn=>absurd hn (by simp)⟩;have⟨pr,rest,h1,h2,h3⟩:=hr;refine⟨_,_,_,h1,fun k v hk=>?_,fun n hn=>?_⟩;have aF:k<l.length:=(zG.1 hk).1;simp[List.getElem?_toArray,zT,<-h2];rw[List.getElem?_append_right (by omega),Nat.add_sub_cancel_left,List.getElem?_append_left (by simpa using aF)];simp[kE,hk];have:n=sz:=(Nat.succ.inj hn).symm;subst this;exact Nat.le_of_add_right_le (Nat.le_of_eq h3);have⟨d,h1,_,h3⟩:=old j c hc;rw[h3 lM];exact hf.ok j d h1;have⟨c',h1,h2,_⟩:=old j c hc;have⟨d',h3,_,_⟩:=old k d hd;exact hf.inj j k c' d' h1 h3 AC (h2 ho);have⟨d,h1,_⟩:=old j c hc;exact hf.bd j d h1;rintro b ⟨j,c,hc,ho,rfl⟩;have⟨d,h1,h2,_⟩:=old j c hc;exact .inl ⟨j,d,h1,h2 ho,rfl⟩
def cE(sz:Nat):Nat->V U->V (V U)
 |0,_=>[]|n+1,l=>l.take sz::cE sz n (l.drop sz)
def ng(sz n:Nat)(l:V U):(cE sz n l).length=n:=by induction n generalizing l with|zero=>rfl|succ n ih=>simp[cE,ih]
def na{x:Cx}{sz:Nat}:∀(n:Nat){l:V U}{vs:V O},cO x l vs->okL l=true->n*sz<=l.length->iX x sz (cE sz n l) vs
 |0,l,vs,h,hk,hl=>by simp[cE,iX]
 |n+1,l,vs,h,hk,hl=>by rw[Nat.succ_mul]at hl;simp only[cE,iX];refine⟨by simp;omega,O5 hk _,?_,na n (h.drop sz) (HB hk _) (by simp;omega)⟩;rw[J5]at h ⊢;intro i u hu;rw[List.getElem?_take]at hu;split at hu;exact h i u hu;cases hu
mutual
def fz(K:Nat)(b:B)(sz:Nat):U->U
 |.sl k off n c=>cond (Nat.beq k K) (match b with
  |.row l _=>if off+n*sz<=l.length then .isl false (cE sz n (l.drop off))else .sl k off n c|_=>.sl k off n c) (.sl k off n c)
 |.vl k st off n=>cond (Nat.beq k K) (match b with
  |.vec l _ j9 cD=>if cD=st/\(off+n)*j9<=l.length then .isl false (cE j9 n (l.drop (off*j9)))else .vl k st off n|_=>.vl k st off n) (.vl k st off n)
 |.ptr k st off=>cond (Nat.beq k K) (match b with
  |.row l _=>if st=0 then .iptr (l.drop off)else .ptr k st off|_=>.ptr k st off) (.ptr k st off)
 |.agg l=>.agg (jW K b sz l)|.tup l=>.tup (jW K b sz l)
 |.fn f a c=>.fn f (jW K b sz a) (jW K b sz c)|u=>u
def jW(K:Nat)(b:B)(sz:Nat):V U->V U
 |[]=>[]|u::l=>fz K b sz u::jW K b sz l
end
def fzB(K:Nat)(b:B)(sz:Nat):B->B
 |.row l e=>.row (jW K b sz l) e|.vec l e s st=>.vec (jW K b sz l) e s st
 |.map es cl=>.map (es.map fun e=>{ e with val:=fz K b sz e.val }) cl
def fzH(K:Nat)(b:B)(sz:Nat):V (Nat×B)->V (Nat×B)
 |[]=>[]|(k,c)::h=>cond (Nat.beq k K) (fzH K b sz h) ((k,fzB K b sz c)::fzH K b sz h)
def Fe(K:Nat)(b:B)(sz:Nat)(h:V (Nat×B))(k:Nat):gt (fzH K b sz h) k=if k=K then none else(gt h k).map (fzB K b sz):=by induction h with|nil=>simp[fzH,gt]|cons p h ih=>have⟨j,c⟩:=p;simp[fzH,beq_eq];by_cases hj:j=K;subst hj;simp[yC,zC,ih,eN];by_cases hk:k=j;simp[hk];simp[hk,Ne.symm hk];simp[hj,yB,zD,eN,ih];by_cases hk:j=k;subst hk;simp[hj];simp[hk]
def Bt(K:Nat)(b:B)(sz:Nat)(c:B):(fzB K b sz c).st=c.st:=by cases c<;>rfl
def Br(K:Nat)(b:B)(sz:Nat)(u:U)(h:okC u=true):okC (fz K b sz u)=true:=by
 cases u with
 |sl k off n c=>
  simp[fz];rcases Nat.beq k K with _|_;rfl;simp[zC];cases b with
  |row l e=>simp only;split<;>rfl|_=>rfl
 |vl k st off n=>
  simp[fz];rcases Nat.beq k K with _|_;rfl;simp[zC];cases b with
  |vec l e s st=>simp only;split<;>rfl|_=>rfl
 |ptr k st off=>
  simp[fz];rcases Nat.beq k K with _|_;rfl;simp[zC];cases b with
  |row l e=>simp only;split<;>rfl|_=>rfl
 |agg l=>simp[okC]at h|tup l=>simp[okC]at h
 |junk=>simp[okC]at h|_=>simp[fz];first |exact h |rfl
def zy(K:Nat)(b:B)(sz:Nat):∀l:V U,okL l=true->okL (jW K b sz l)=true
 |[],_=>rfl|u::l,h=>by simp only[okL]at h;obtain⟨h1,h2⟩:=MN h;simp[jW,okL,Br K b sz u h1,zy K b sz l h2]
def XW(K:Nat)(b:B)(sz:Nat):∀l:V U,(jW K b sz l).length=l.length
 |[]=>rfl|u::l=>by simp[jW,XW K b sz l]
section
variable{x y:Cx}{K:Nat}{b:B}{sz:Nat}(hg:gt x.X.h K=some b)(hb:oB x K b)(gI:Mo x.X.nx x y)
 (dX:∀i l e md,x.Y K=some i->lk x.s.h i=some (.inl (l,e,md))->(md=0/\lk y.s.h i=some (.inl (l,0,1)))\/∃s,md=s+2/\lk y.s.h i=some (.inl (l,s+1,1)))
include hg hb gI dX
mutual
def zbi:(u:U)->(v:O)->aD x u v->aD y (fz K b sz u) v
 |.sl k off n c,v,h=>by
  have keep:=gI.ke _ _ (aD.bel _ _ h) h;simp[fz,beq_eq];by_cases hk:k=K;subst hk;simp only[yC,zC];cases b with
  |row l e=>simp only;split;rename_i aZ;obtain⟨i,hi,rfl,hc,vB⟩:=O3 (x:=x) (by simp[cM,hg,B.st]) h;obtain⟨k1,i',l',e1,e2,e3⟩:=hb;rw[hi]at e1;cases e1;have e4:cO y l l':=(gI.ke.E e3.bel e3).1;rcases dX i l' e 0 hi e2 with⟨_,hl⟩|⟨s,hs,_⟩;simp only[aD,ng];refine .inr ⟨i,off,c,rfl,(fun ht=>by cases ht),?_⟩;by_cases hn:n=0;exact .inl (List.eq_nil_of_length_eq_zero (by rw[ng,hn]));exact .inr ⟨l',0,sz,hl,na n (e4.drop off) (HB k1 _) (by simp;omega),.inl ⟨hc,vB⟩⟩;omega;exact keep
  |_=>exact keep
  simp[hk,yB,zD];exact keep
 |.vl k st off n,v,h=>by
  have keep:=gI.ke _ _ (aD.bel _ _ h) h;simp[fz,beq_eq];by_cases hk:k=K;subst hk;simp[yC,zC];cases b with
  |vec l e j9 cD=>
   simp only;split;rename_i aZ;have⟨rfl,aZ⟩:=aZ;have⟨l0,e0,s0,g1,g2⟩:=XV (x:=x) (by simp[cM,hg,B.st]) h;have:=hg.symm.trans g1;cases this;have⟨k1,k2,h3⟩:=hb;rcases h3 with⟨rfl,h4⟩|⟨i,l',e1,e2,e3⟩;rw[h4]at g2;obtain⟨rfl,rfl,o,rfl,ho⟩:=g2;simp only[aD,cE];rcases o with _|a;exact .inl ⟨trivial,.inl rfl⟩;exact .inr ⟨a.block,a.off,0,by obtain⟨q1,q2,q3⟩:=a;have:=ho _ rfl;simp only at this;subst this;rfl,by simp,.inl trivial⟩;rw[e1]at g2;have e4:cO y l l':=(gI.ke.E e3.bel e3).1;rcases dX i l' e _ e1 e2 with⟨h0,_⟩|⟨s,hs,hl⟩;omega;have:s=j9:=by omega
   subst this;simp only[aD,ng];rcases g2 with⟨_,rfl,a,c,rfl,ha⟩|rfl;exact .inr ⟨a.block,a.off,c,by obtain⟨q1,q2,q3⟩:=a;simp only at ha;subst ha;rfl,by simp,.inl rfl⟩;refine .inr ⟨i,off*s,bY+off,rfl,by simp,?_⟩;rw[Nat.add_mul]at aZ;exact .inr ⟨l',s+1,s,hl,na n (e4.drop _) (HB k1 _) (by simp;omega),.inr ⟨by omega,rfl,k2,by simp[bR],by rw[<-e3.2];exact aZ⟩⟩;exact keep
  |_=>exact keep
  simp[hk,yB,zD];exact keep
 |.ptr k st off,v,h=>by
  have keep:=gI.ke _ _ (aD.bel _ _ h) h;simp[fz,beq_eq];by_cases hk:k=K;subst hk;simp only[yC,zC];cases b with
  |row l e=>simp only;split;rename_i cK;subst cK;obtain⟨i,hi,rfl⟩:=Y0 (x:=x) (by simp[cM,hg,B.st]) h;obtain⟨k1,i',l',e1,e2,e3⟩:=hb;rw[hi]at e1;cases e1;have e4:cO y l l':=(gI.ke.E e3.bel e3).1;rcases dX i l' e 0 hi e2 with⟨_,hl⟩|⟨s,hs,_⟩;simp only[aD];exact⟨i,off,l',0,rfl,hl,e4.drop off,HB k1 _⟩;omega;exact keep
  |_=>exact keep
  simp[hk,yB,zD];exact keep
 |.agg l,v,h=>by simp[aD,fz]at*;obtain⟨vs,rfl,h1,h2,h3⟩:=h;exact⟨vs,rfl,Fv l vs h1,by rw[XW];exact h2,zy K b sz l h3⟩
 |.tup l,v,h=>by simp[aD,fz]at*;obtain⟨vs,rfl,h1,h2⟩:=h;exact⟨vs,rfl,Fv l vs h1,by rw[XW];exact h2⟩
 |.fn f p q,v,h=>by simp[aD,fz]at*;obtain⟨va,vb,rfl,h1,h2,h3,h4⟩:=h;exact⟨va,vb,rfl,Fv p va h1,by rw[XW];exact h2,Fv q vb h3,by rw[XW];exact h4⟩
 |.junk,v,h=>by simp[fz,aD]
 |.bool _,v,h=>by simpa[fz,aD]using h
 |.int _ _,v,h=>by simpa[fz,aD]using h
 |.str _,v,h=>by simpa[fz,aD]using h
 |.nilp,v,h=>by simpa[fz,aD]using h
 |.nils,v,h=>by simpa[fz,aD]using h
 |.nilm,v,h=>by simpa[fz,aD]using h
 |.nilf,v,h=>by simpa[fz,aD]using h
 |.nili,v,h=>by simpa[fz,aD]using h
 |.map k,v,h=>by simp[fz];exact gI.ke _ _ (aD.bel _ _ h) h
 |.iptr l,v,h=>by simp[fz];exact gI.ke _ _ (aD.bel _ _ h) h
 |.isl t l,v,h=>by simp[fz];exact gI.ke _ _ (aD.bel _ _ h) h
def Fv:(l:V U)->(vs:V O)->cO x l vs->cO y (jW K b sz l) vs
 |[],vs,h=>by have _:=hg;have _:=hb;have _:=gI;have _:=dX;simp[jW,cO]
 |u::l,[],h=>by simp[cO]at h
 |u::l,v::vs,h=>by simp[cO,jW]at*;exact⟨zbi u v h.1,Fv l vs h.2⟩
end
end
def Gh.freeze{n0:Nat}{tm:V U}{X:Sg}{K:Nat}{b:B}(sz:Nat)(hg:gt X.h K=some b)(hb:∀es cl,b≠.map es cl):Gh n0 tm X (jW K b sz tm) ⟨fzH K b sz X.h,X.nx⟩:=fun F x tv hx hr hf he=>by
 subst hx;have⟨hK,hB⟩:=hr.ok K b hg;have hs:∃s':S,(∀m w,fY m x.s w->bG m x.s w m s' w)/\(∀i c,lk x.s.h i=some c->x.Y K≠some i->lk s'.h i=some c)/\(∀i c,lk s'.h i=some c->i<s'.nx)/\
   (∀i l e md,x.Y K=some i->lk x.s.h i=some (.inl (l,e,md))->(md=0/\lk s'.h i=some (.inl (l,0,1)))\/∃s,md=s+2/\lk s'.h i=some (.inl (l,s+1,1))):=by
  have act:∀i l e md e1,x.Y K=some i->lk x.s.h i=some (.inl (l,e,md))->(md=0/\e1=0\/∃sz,md=sz+2/\e1=sz+1)->∃s':S,(∀m w,fY m x.s w->bG m x.s w m s' w)/\(∀i c,lk x.s.h i=some c->x.Y K≠some i->lk s'.h i=some c)/\(∀i c,lk s'.h i=some c->i<s'.nx)/\
   (∀i l e md,x.Y K=some i->lk x.s.h i=some (.inl (l,e,md))->(md=0/\lk s'.h i=some (.inl (l,0,1)))\/∃s,md=s+2/\lk s'.h i=some (.inl (l,s+1,1))):=by
   intro i l e md e1 hi hl qM;refine⟨⟨up x.s.h i (.inl (l,e1,1)),x.s.nx⟩,fun m w hf=>bG.freeze hf hl qM,fun j c hc d5=>?_,fun j c hc=>?_,fun j l' e' md' hj BK=>?_⟩;have:i≠j:=fun h=>d5 (by rw[hi,h]);simp[B2,this,hc];simp[B2]at hc;split at hc;rename_i h;subst h;exact hr.bd _ _ hl;exact hr.bd j c hc;rw[hi]at hj;cases hj;rw[hl]at BK;cases BK;rcases qM with⟨rfl,rfl⟩|⟨s,rfl,rfl⟩
   exact .inl ⟨rfl,by simp[B2,hl]⟩;exact .inr ⟨s,rfl,by simp[B2,hl]⟩
  cases b with
  |map es cl=>exact absurd rfl (hb es cl)|row l e=>have⟨_,i,l',e1,e2,_⟩:=hB;exact act i l' e 0 0 e1 e2 (.inl ⟨rfl,rfl⟩)
  |vec l e s st=>have⟨_,_,h3⟩:=hB;rcases h3 with⟨_,h4⟩|⟨i,l',e1,e2,_⟩;exact⟨x.s,fun m w hf=>bG.refl hf,fun i c hc _=>hc,hr.bd,fun i l e md hi=>by rw[h4]at hi;cases hi⟩;exact act i l' e (s+2) (s+1) e1 e2 (.inr ⟨s,rfl,rfl⟩)
 have⟨s',a1,a2,a3,a4⟩:=hs;have sub:∀{k c},gt (fzH K b sz x.X.h) k=some c->k≠K/\∃d,gt x.X.h k=some d/\c=fzB K b sz d:=fun{k c} h=>by rw[Fe]at h;split at h;cases h;rename_i hk;rcases hd:gt x.X.h k with _|d;simp[hd]at h;simp[hd]at h;exact⟨hk,d,rfl,h.symm⟩
 have gI:Mo x.X.nx x ⟨x.Y,⟨fzH K b sz x.X.h,x.X.nx⟩,s'⟩:=by refine⟨fun k _ h2=>⟨h2,fun c hc=>?_⟩,fun i row e hl=>a2 i _ hl fun h=>hB.not1 h hl⟩;obtain⟨_,d,h1,rfl⟩:=sub hc;refine⟨d,h1,by rw[Bt];exact zF _,fun _=>⟨rfl,fun l e s st h=>?_⟩⟩;subst h;exact⟨_,rfl⟩
 have Vn:=fun u v h=>zbi (y:=⟨x.Y,⟨fzH K b sz x.X.h,x.X.nx⟩,s'⟩) (sz:=sz) hg hB gI a4 u v h;have Ay:∀{l:V U}{vs:V O},bB x l vs->bB ⟨x.Y,⟨fzH K b sz x.X.h,x.X.nx⟩,s'⟩ (jW K b sz l) vs:=fun{l vs} h=>⟨Fv hg hB gI a4 l vs h.1,by rw[XW];exact h.2⟩;refine⟨⟨x.Y,⟨fzH K b sz x.X.h,x.X.nx⟩,s'⟩,a1,rfl,⟨fun k c hc=>?_,fun k k' c c' i h1 h2=>?_,a3⟩,fun i c hc=>?_,Ay he,fun u v _ h=>gI.ke u v (aD.bel _ _ h) h⟩;obtain⟨hk,d,h1,rfl⟩:=sub hc;obtain⟨h2,h3⟩:=hr.ok k d h1;refine⟨h2,?_⟩;have d5:∀i,x.Y k=some i->x.Y K≠some i:=fun i h h'=>hk (hr.inj k K d b i h1 hg h h');cases d with
 |row l e=>have⟨k1,i,l',e1,e2,e3⟩:=h3;exact⟨zy _ _ _ _ k1,i,l',e1,a2 i _ e2 (d5 i e1),Ay e3⟩
 |vec l e s st=>have⟨k1,k2,h3⟩:=h3;refine⟨zy _ _ _ _ k1,k2,?_⟩;rcases h3 with⟨rfl,h4⟩|⟨i,l',e1,e2,e3⟩;exact .inl ⟨rfl,h4⟩;exact .inr ⟨i,l',e1,a2 i _ e2 (d5 i e1),Ay e3⟩
 |map es cl=>have⟨i,es',e1,e2,e3⟩:=h3;refine⟨i,es',e1,a2 i _ e2 (d5 i e1),by simp[e3.1],fun j e he=>?_⟩;rw[List.getElem?_map]at he;rcases hj:es[j]? with _|e0;simp[hj]at he;simp[hj]at he;subst he;have⟨v,q1,q2,q3,q4⟩:=e3.2 j e0 hj;exact⟨v,q1,gI.ke _ _ (aD.bel _ _ q2) q2,Vn _ _ q3,q4⟩
 have⟨_,d,g1,_⟩:=sub h1;have⟨_,d',g2,_⟩:=sub h2;exact hr.inj k k' d d' i g1 g2;have⟨h1,h2⟩:=hf i c hc;refine⟨a2 i c h1 (h2 K b hg),fun k d hd=>?_⟩;have⟨_,d',g1,_⟩:=sub hd;exact h2 k d' g1
end Go.Vx
