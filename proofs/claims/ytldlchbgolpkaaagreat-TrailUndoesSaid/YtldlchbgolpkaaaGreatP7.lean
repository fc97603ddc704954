import Derived.CallsIn
import Derived.OrdersIn
import Derived.Test.YtldlchbgolpkaaaGreatP6
set_option linter.all false
namespace Go.Vx
open Go Go.Rx
def dW(tm:List U)(d:Option Tmp)(u:U):List U:=match d with
 |none=>tm|some d=>tm.set d u
variable{x:Cx}
variable{tm:List U}
theorem Oe{tv:List Value}(h:bF x tm tv){u:U}{v:Value}(hu:aD x u v)(d:Option Tmp):bF x (dW tm d u) (NH tv d v):=by
 rcases d with _|d;exact h;exact h.set d hu
structure St(F:Nat->lK->Prop)(x:Cx)(tm:List U)(tv:List Value)(m:Nm)(w:World)(a:Act):Prop where
 h:kF x
 fr:Fr F x
 e:bF x tm tv
 fits:i4 m x.s w
 act:xR m x.s.nx tv a
def bE(P:Program)(f:FuncId)(args:List U)(X:Sg)(Q:U->Sg->Prop):Prop :=
 ∀F x vs m w bH,x.X=X->kF x->Fr F x->bF x args vs->i4 m x.s w->nQ m x.s.nx vs bH->
  Calls P f bH.toArray w fun e w₁=>∃y aH u v cv,e=.returned cv/\Q u y.X/\bP m x.s w aH y.s w₁/\eZ aH y.s.nx v cv/\kF y/\Fr F y/\aD y u v/\Ke x.X.nx x y/\x.X.nx<=y.X.nx
theorem Mo.nx{x y:Cx}(h:Mo x.X.nx x y):x.X.nx<=y.X.nx:=by
 cases hn:x.X.nx with|zero=>omega|succ n=>have:=(h.ref n (by omega) (by omega)).1;omega
theorem TN(P:Program):Gb P nc:=fun f args s v bJ h=>by simp[nc]at h
theorem OZ(a:Act)(d:Option Tmp)(v:Value):(a.put d v).defers=a.defers:=by cases d<;>rfl
section
variable{P:Program}{T:Tb}(hT:lF P T){F:Nat->lK->Prop}{x:Cx}{tm:List U}{tv:List Value}{m:Nm}{w:World}{a:Act}
include hT
variable{next:Act->World->Prop}
variable{Q:Exit->Act->World->Prop}
theorem St.op(st:St F x tm tv m w a)(o:Oper){u:U}{X':Sg}(h:bM T x.X tm o.op=some (u,X'))
  (hn:∀y cX aH w₁ bC,y.X=X'->St F y (dW tm o.dst u) cX aH w₁ bC->bP m x.s w aH y.s w₁->Ke x.X.nx x y->x.X.nx<=y.X.nx->bC.defers=a.defers->next bC w₁):o.wp P a w next Q:=by
 obtain⟨v,y,h1,h2,h3,h4⟩:=ZS st.h st.e h;refine TM hT (TN P) st.fits st.act o h1 fun aH w₁ cv aT gU=>?_;exact hn y (NH tv o.dst v) aH w₁ _ h2 ⟨h4.h,h4.fr F st.fr,Oe (h4.mo.ke.E st.e.bel st.e) h3 _,aT.fits,(st.act.ext aT.agree aT.nx).put gU o.dst⟩ aT h4.mo.ke h4.mo.nx (OZ _ _ _)
theorem St.call(st:St F x tm tv m w a)(o:Oper){f:FuncId}{args:List U}(h:k8 T tm o.op=some (f,args)){R:U->Sg->Prop}(k9:bE P f args x.X R)
  (hn:∀y u cX aH w₁ bC,R u y.X->St F y (dW tm o.dst u) cX aH w₁ bC->bP m x.s w aH y.s w₁->Ke x.X.nx x y->x.X.nx<=y.X.nx->bC.defers=a.defers->next bC w₁):o.wp P a w next Q:=by
 obtain⟨vs,h1,h2⟩:=qxt st.e h;obtain⟨bH,g1,g2⟩:=qu5 hT st.act o w h1;unfold Oper.wp;rw[g1];show Calls P f _ w _;refine(k9 F x vs m w bH rfl st.h st.fr h2 st.fits g2).mono ?_;rintro e w₁ ⟨y,aH,u,v,cv,rfl,hR,aT,gU,hh,m7,DH,eI,jM⟩;exact hn y u (NH tv o.dst v) aH w₁ _ hR ⟨hh,m7,Oe (eI.E st.e.bel st.e) DH _,aT.fits,(st.act.ext aT.agree aT.nx).put gU o.dst⟩ aT eI jM (OZ _ _ _)
theorem St.nilq(st:St F x tm tv m w a)(o:Oper){t e ty:TypeId}{xo yo:Operand}{b:Bool}{l:List (List U)}(ho:o.op=.binOp .eql t xo yo ty)(hd:T.und t=some (.slice e))(hx:c8 tm xo=some (.isl b l))(hy:c8 tm yo=some .nils)
  (hn:∀(z:Bool) y cX aH w₁ bC,(z=true->l=[])->y.X=x.X->St F y (dW tm o.dst (.bool z)) cX aH w₁ bC->bP m x.s w aH y.s w₁->Ke x.X.nx x y->x.X.nx<=y.X.nx->bC.defers=a.defers->next bC w₁):o.wp P a w next Q:=by
 obtain⟨vx,ex,rx⟩:=j8 st.e hx;obtain⟨vy,ey,ry⟩:=j8 st.e hy;simp only[aD]at rx ry;subst ry;have key:∃z:Bool,(z=true->l=[])/\AX T nc tv x.s o.op=some (.bool z,x.s):=by rw[ho];rcases rx with⟨hl,rfl |⟨r,rfl⟩⟩|⟨i,off,c,rfl,_⟩;exact⟨true,fun _=>hl,by simp[AX,iV,ex,ey,pX,wM,eqv,hd]⟩;exact⟨false,by simp,by simp[AX,iV,ex,ey,pX,wM,eqv,hd]⟩;exact⟨false,by simp,by simp[AX,iV,ex,ey,pX,wM,eqv,hd]⟩
 obtain⟨z,hz,nV⟩:=key;refine TM hT (TN P) st.fits st.act o nV fun aH w₁ cv aT gU=>?_;exact hn z x (NH tv o.dst (.bool z)) aH w₁ _ hz rfl ⟨st.h,st.fr,Oe st.e (by simp[aD]) _,aT.fits,(st.act.ext aT.agree aT.nx).put gU o.dst⟩ aT (Ke.refl _ _) (zF _) (OZ _ _ _)
omit hT in
theorem St.skip(st:St F x tm tv m w a)(d:Option Tmp):St F x (dW tm d (.tup [])) (NH tv d undef) m w (a.put d undef):=
 ⟨st.h,st.fr,Oe st.e (by simp only[aD];exact⟨[],rfl,by simp[cT],rfl⟩) _,st.fits,st.act.put (BR fun _=>by simp[undef,aI,aJ]) d⟩
end
def cJ(a9:List Oper)(tm:List U)(o:Oper):Option Bool :=
 match o.guard with
 |none=>some true|some (j,want)=>match BM a9 j with
  |none=>some false|some d=>match nth tm d with
   |some (.bool b)=>some (b==want)|some (.tup _)=>some false
   |_=>none
theorem vT{a9:List Oper}{tv:List Value}(ht:bF x tm tv){o:Oper}{b:Bool}(h:cJ a9 tm o=some b):Oa a9 tv o=b:=by
 unfold cJ at h;unfold Oa;rcases hg:o.guard with _|g;simp[hg]at h;simp[h];obtain⟨j,want⟩:=g;simp only[hg]at h ⊢;rcases hd:BM a9 j with _|d;simp[hd]at h;simp[h];simp only[hd,iZ]at h ⊢;rcases hu:tm[d]? with _|u;simp[hu]at h;obtain⟨v,h1,h2⟩:=ht.get hu;rw[h1];cases u with
 |bool c=>simp only[hu,zA]at h;simp only[aD]at h2;subst h2;simp[h]|tup l=>simp only[hu,zA]at h;simp only[aD]at h2;obtain⟨vs,rfl,_⟩:=h2;simp[h]
 |_=>simp[hu]at h
def oM(ro:Option Nat):Fence:={ Fence.wide with round:=ro }
variable{ro:Option Nat}
variable{n:Nat}
variable{P:Program}
variable{w:World}
theorem Ea{f:FuncId}{args:Array Value}{R:Ending->World->Prop}(h:Calls P f args w R):CallsIn (oM ro) n P f args w R:=(callsIn_wide (n:=n)).2 h
theorem Nh{row:String}{args:Array Value}{R:Value->World->Prop}(h:Rows P row args w R):RowsIn (oM ro) n P row args w R:=fun c cs _=>by
 obtain⟨v,w',r,s⟩:=h c cs;exact⟨v,w',r,(stepsIn_wide (P:=P)).2 s⟩
theorem z2u:(oM ro).depth.isSome=true->1<=n:=fun h=>by simp[oM,Fence.wide]at h
theorem AT{o:Oper}{a:Act}{next:Act->World->Prop}{Q:Exit->Act->World->Prop}(ho:∀c,o.op≠.defer c)(h:o.wp P a w next Q):o.wpIn (oM ro) n P a w next Q:=by
 refine⟨fun _ _=>trivial,?_⟩;have e:o.semAt (oM ro).round a.eval=execOp a.eval o:=Oper.semAt_eq _ _ _ ho;rw[e];revert h;unfold Oper.wp;generalize (execOp a.eval o).run P w=r;intro h;unfold Oper.upon at h;split at h;exact h;exact h;exact h;exact⟨z2u,Ea h⟩;exact⟨z2u,Nh h⟩;exact h;exact h.elim
theorem O8{T:Tb}{X:Sg}{op:Op}{r:U×Sg}(h:bM T X tm op=some r):∀c,op≠.defer c:=by
 rintro c rfl;simp[bM,gG,nC,nO]at h
theorem Pc{T:Tb}{op:Op}{r:FuncId×List U}(h:k8 T tm op=some r):∀c,op≠.defer c:=by
 rintro c rfl;simp[k8]at h
structure PG where
 prog:Program
 nb:Nat
 G:Cx->Nm->World->Prop
 ro:Option Nat->Prop
 mks:Bool
 st:∀{x y:Cx}{m m':Nm}{w w':World},G x m w->i4 m x.s w->bP m x.s w m' y.s w'->Ke nb x y->G y m' w'
abbrev PG.of(P:Program):PG:=⟨P,0,fun _ _ _=>True,fun _=>True,false,fun _ _ _ _=>trivial⟩
structure VZ(C:PG)(n0:Nat)(x:Cx)(m:Nm)(w:World):Prop where
 nb:C.nb<=n0
 g:C.G x m w
variable{m:Nm}
variable{m':Nm}
variable{w':World}
theorem VZ.adv{C:PG}{n0:Nat}{y:Cx}(h:VZ C n0 x m w)(hf:i4 m x.s w)(ha:bP m x.s w m' y.s w')(hk:Ke n0 x y):VZ C n0 y m' w':=⟨h.nb,C.st h.g hf ha (hk.le h.nb)⟩
def qx(b0:Nat)(w:World)(ds:List Deferred):Prop:=b0<=w.heap.size/\∃bs:List Nat,bs.Nodup/\ds=bs.map (fun b=>{ target:=.collected b,args:=#[] })/\∀b∈bs,b0<=b/\w.heap[b]? = some (.deferred (some []))
variable{s:S}
theorem z7y(hf:i4 m s w){b:Nat}{o:Obj}(h:w.heap[b]? = some o)(ho:∀c e f,o≠.cells c e f)(n?:∀q c,o≠.map q c):¬ R6 m s b:=by
 rintro⟨i,c,h1,h2,rfl⟩;have:=hf.fits.ok i c h1;rcases c with⟨l,e,md⟩|⟨es,cl⟩;simp only[yP]at this
 match md,this with
 |0,hr=>simp only[D7]at hr;rw[hr.2]at h;exact ho _ _ _ (Option.some.inj h).symm|1,hr=>simp[Own]at h2
 |n+2,hr=>simp only[D7]at hr;obtain⟨_,_,hr,_⟩:=hr;rw[hr]at h;exact ho _ _ _ (Option.some.inj h).symm
 simp only[yP]at this;rw[this]at h;exact n? _ _ (Option.some.inj h).symm
theorem zbe{s':S}(hf:i4 m s w)(ha:bP m s w m' s' w'){b:Nat}{o:Obj}(h:w.heap[b]? = some o)(ho:∀c e f,o≠.cells c e f)(n?:∀q c,o≠.map q c):w'.heap[b]? = some o:=by
 rw[ha.same b (Array.getElem?_eq_some_iff.1 h).1 (z7y hf h ho n?)];exact h
theorem qx.adv{b0:Nat}{s':S}{ds:List Deferred}(h:qx b0 w ds)(hf:i4 m s w)(ha:bP m s w m' s' w'):qx b0 w' ds:=by
 obtain⟨h0,bs,h1,h2,h3⟩:=h;exact⟨Nat.le_trans h0 ha.size,bs,h1,h2,fun b hb=>⟨(h3 b hb).1,zbe hf ha (h3 b hb).2 (by simp) (by simp)⟩⟩
structure DR(C:PG)(b0:Nat)(ds:List Deferred)(w':World)(ds':List Deferred):Prop where
 eq:C.mks=false->ds'=ds
 ok:C.mks=true->qx b0 w' ds'
theorem DR.trans{C:PG}{b0:Nat}{ds L8 ds2:List Deferred}{w1 w2:World}(h:DR C b0 ds w1 L8)(g:DR C b0 L8 w2 ds2):DR C b0 ds w2 ds2:=⟨fun hk=>(g.eq hk).trans (h.eq hk),g.ok⟩
theorem DR.here{C:PG}{b0:Nat}{ds L8:List Deferred}{w1:World}(h:DR C b0 ds w1 L8):DR C b0 L8 w1 L8:=⟨fun _=>rfl,h.ok⟩
theorem DR.adv{C:PG}{b0:Nat}{ds L8:List Deferred}{m:Nm}{s:S}{w:World}{m':Nm}{s':S}{w':World}(h:DR C b0 ds w L8)(hf:i4 m s w)(ha:bP m s w m' s' w'):DR C b0 ds w' L8:=⟨h.eq,fun hk=>(h.ok hk).adv hf ha⟩
def IX(C:PG)(X:Sg)(tm:List U)(o:Oper)(R:U->Sg->Prop):Prop :=
 ∀(F:Nat->lK->Prop)(x:Cx)(tv:List Value)(m:Nm)(w:World)(a:Act)(next:Act->World->Prop)(Q:Exit->Act->World->Prop),x.X=X->St F x tm tv m w a->VZ C x.X.nx x m w-> (∀u y cX aH w₁ bC,R u y.X->St F y (dW tm o.dst u) cX aH w₁ bC->bP m x.s w aH y.s w₁->Ke x.X.nx x y->x.X.nx<=y.X.nx->bC.defers=a.defers->next bC w₁)->∀ro,C.ro ro->o.wpIn (oM ro) 0 C.prog a w next Q
def RU(C:PG)(T:Tb)(a9:List Oper):List Oper->List U->Sg->(List U->Sg->Prop)->Prop
 |[],tm,X,K=>K tm X|o::r,tm,X,K=>(cJ a9 tm o=some true/\∃u X',bM T X tm o.op=some (u,X')/\RU C T a9 r (dW tm o.dst u) X' K)\/ (cJ a9 tm o=some true/\∃f args R,k8 T tm o.op=some (f,args)/\bE C.prog f args X R/\∀u X',R u X'->RU C T a9 r (dW tm o.dst u) X' K)\/ (cJ a9 tm o=some false/\RU C T a9 r (dW tm o.dst (.tup [])) X K)\/ (cJ a9 tm o=some true/\∃t xo yo ty e b l,o.op=.binOp .eql t xo yo ty/\T.und t=some (.slice e)/\c8 tm xo=some (.isl b l)/\c8 tm yo=some .nils/\∀z:Bool,(z=true->l=[])->RU C T a9 r (dW tm o.dst (.bool z)) X K)\/ (cJ a9 tm o=some true/\∃R,IX C X tm o R/\∀u X',R u X'->RU C T a9 r (dW tm o.dst u) X' K)
def cj(C:PG)(n0:Nat)(F:Nat->lK->Prop)(x:Cx)(m:Nm)(w:World)(ds:List Deferred)(b0:Nat)(Q:Exit->List U->Sg->Prop):Exit->Act->World->Prop:=fun e a' w'=>
 ∃y tm' cX m',Q e tm' y.X/\St F y tm' cX m' w' a'/\bP m x.s w m' y.s w'/\Ke n0 x y/\n0<=y.X.nx/\DR C b0 ds w' a'.defers
def WPU(C:PG)(n0:Nat)(c:Code)(tm:List U)(X:Sg)(Q:Exit->List U->Sg->Prop):Prop :=
 n0<=X.nx->∀F x tv m w a b0,x.X=X->St F x tm tv m w a->VZ C n0 x m w->DR C b0 a.defers w a.defers->∀ro,C.ro ro->c.wpIn (oM ro) 0 C.prog (cj C n0 F x m w a.defers b0 Q) a w
section
variable{C:PG}{n0:Nat}{Q:Exit->List U->Sg->Prop}{tm:List U}{X:Sg}
def ET(K:List U->Sg->Prop)(Q:Exit->List U->Sg->Prop):Exit->List U->Sg->Prop
 |.normal,tm,s=>K tm s|e,tm,s=>Q e tm s
theorem WPU.seq{p q:Code}(h:WPU C n0 p tm X (ET (fun tm X=>WPU C n0 q tm X Q) Q)):WPU C n0 (.seq p q) tm X Q:=fun hn F x tv m w a b0 hx st hG hd ro kH=>by
 refine wpIn_seq (wpIn_mono (h hn F x tv m w a b0 hx st hG hd ro kH) ?_);rintro e a' w' ⟨y,tm',cX,m',h1,h2,h3,h4,h5,h6⟩;cases e with
 |normal=>refine wpIn_mono (h1 h5 F y cX m' w' a' b0 rfl h2 (hG.adv st.fits h3 h4) h6.here ro kH) ?_;rintro e a'' w'' ⟨z,jH,tv'',m'',g1,g2,g3,g4,g5,g6⟩;exact⟨z,jH,tv'',m'',g1,g2,h3.trans g3,h4.trans g4,g5,h6.trans g6⟩
 |_=>exact⟨y,tm',cX,m',h1,h2,h3,h4,h5,h6⟩
theorem WPU.skip(h:Q .normal tm X):WPU C n0 .skip tm X Q:=fun hn F x tv m w a b0 hx st hG hd ro kH=>wpIn_skip ⟨x,tm,tv,m,hx ▸ h,st,bP.refl st.fits,Ke.refl _ _,hx ▸ hn,hd⟩
theorem WPU.ret(h:Q .ret tm X):WPU C n0 .ret tm X Q:=fun hn F x tv m w a b0 hx st hG hd ro kH=>wpIn_ret ⟨x,tm,tv,m,hx ▸ h,st,bP.refl st.fits,Ke.refl _ _,hx ▸ hn,hd⟩
theorem WPU.exit{id:Nat}(h:Q (.exit id) tm X):WPU C n0 (.exit id) tm X Q:=fun hn F x tv m w a b0 hx st hG hd ro kH=>wpIn_exit ⟨x,tm,tv,m,hx ▸ h,st,bP.refl st.fits,Ke.refl _ _,hx ▸ hn,hd⟩
theorem WPU.cond{c:Operand}{p q:Code}{t:Bool}(hc:c8 tm c=some (.bool t))(h1:t=true->WPU C n0 p tm X Q)(h2:t=false->WPU C n0 q tm X Q):WPU C n0 (.cond c p q) tm X Q:=fun hn F x tv m w a b0 hx st hG hd ro kH=>by
 obtain⟨v,e1,e2⟩:=j8 st.e hc;simp only[aD]at e2;subst e2;have he:=(st.act.evalO e1).at;simp only[aI]at he;rcases t with _|_;exact wpIn_cond_false he.symm (h2 rfl hn F x tv m w a b0 hx st hG hd ro kH);exact wpIn_cond_true he.symm (h1 rfl hn F x tv m w a b0 hx st hG hd ro kH)
def BO(id:Nat)(Q:Exit->List U->Sg->Prop):Exit->List U->Sg->Prop
 |.exit id',tm,s=>if id'=id then Q .normal tm s else Q (.exit id') tm s|e,tm,s=>Q e tm s
theorem aV{id:Nat}{c:Code}(h:WPU C n0 c tm X (BO id Q)):WPU C n0 (.block id c) tm X Q:=fun hn F x tv m w a b0 hx st hG hd ro kH=>by
 refine wpIn_block (wpIn_mono (h hn F x tv m w a b0 hx st hG hd ro kH) ?_);rintro e a' w' ⟨y,tm',cX,m',h1,h2⟩;cases e with
 |exit id'=>simp only[Exit.inBlock];simp only[BO]at h1;by_cases KC:id'=id;simp only[KC,if_true]at h1 ⊢;exact⟨y,tm',cX,m',h1,h2⟩;simp only[KC,if_false]at h1 ⊢;exact⟨y,tm',cX,m',h1,h2⟩|_=>exact⟨y,tm',cX,m',h1,h2⟩
theorem WPU.loop{c:Code}(I:Nat->List U->Sg->Prop)(n:Nat)(h₀:I n tm X)(round:∀n tm X,I n tm X->WPU C n0 c tm X (ET (fun tm' X'=>∃n',n'<n/\I n' tm' X') Q)):WPU C n0 (.loop c) tm X Q:=by
 intro hn F x tv m w a b0 hx st hG hd ro kH b k cs Q7 hb hr;have key:∀n tm X,I n tm X->n0<=X.nx->∀x tv m w a,x.X=X->St F x tm tv m w a->VZ C n0 x m w->DR C b0 a.defers w a.defers->∃e a' w',cj C n0 F x m w a.defers b0 Q e a' w'/\ArrivesIn (Machine.fenced C.prog (oM ro)) C.prog (lone (b.atR a (.code c :: .inLoop c::k)) cs w) b k cs e a' w':=by
  intro n;induction n using Nat.strongRecOn with
  |_ n ih=>
   intro tm X hI hn x tv m w a hx st hG hd;obtain⟨e,bC,w₁,⟨y,vI,vH,aH,hq,bY,aT,eI,jM,iW⟩,AB⟩:=round n tm X hI hn F x tv m w a b0 hx st hG hd ro kH b (.inLoop c::k) cs Q7 hb hr;cases e with
   |normal=>obtain⟨n',aE,hI'⟩:=hq;obtain⟨e₂,a₂,nX,⟨z,Mw,Mv,FH,Vk,Ba,QA,Bs,Bi,Cb⟩,Q8⟩:=ih n' aE vI y.X hI' jM y vH aH w₁ bC rfl bY (hG.adv st.fits aT eI) iW.here;exact⟨e₂,a₂,nX,⟨z,Mw,Mv,FH,Vk,Ba,aT.trans QA,eI.trans Bs,Bi,iW.trans Cb⟩,.of_steps (StepsIn.trans AB (.one (fenced_calm hb hr rfl) stepR_inLoop)) Q8⟩
   |exit id=>exact⟨_,bC,w₁,⟨y,vI,vH,aH,hq,bY,aT,eI,jM,iW⟩,.pass (x:=.inLoop c) rfl (fun _ _=>.inl (by simp)) AB⟩|goto l=>exact⟨_,bC,w₁,⟨y,vI,vH,aH,hq,bY,aT,eI,jM,iW⟩,.pass (x:=.inLoop c) rfl (fun _ _=>.inl (by simp)) AB⟩
   |ret=>exact⟨_,bC,w₁,⟨y,vI,vH,aH,hq,bY,aT,eI,jM,iW⟩,.pass (x:=.inLoop c) rfl (fun _ _=>.inl (by simp)) AB⟩|panic ch=>exact⟨_,bC,w₁,⟨y,vI,vH,aH,hq,bY,aT,eI,jM,iW⟩,.pass (x:=.inLoop c) rfl (fun _ _=>.inl (by simp)) AB⟩
   |outgrown=>exact⟨_,bC,w₁,⟨y,vI,vH,aH,hq,bY,aT,eI,jM,iW⟩,.pass (x:=.inLoop c) rfl (fun _ _=>.inl (by simp)) AB⟩
 obtain⟨e,a',w',hq,AB⟩:=key n tm X h₀ hn x tv m w a hx st hG hd;exact⟨e,a',w',hq,.of_steps (.one (fenced_calm hb hr rfl) stepR_loop) AB⟩
def Gh(n0:Nat)(tm:List U)(X:Sg)(tm':List U)(X':Sg):Prop :=
 ∀F x tv,x.X=X->kF x->Fr F x->bF x tm tv->∃y,(∀m w,i4 m x.s w->bP m x.s w m y.s w)/\y.X=X'/\kF y/\Fr F y/\bF y tm' tv/\Ke n0 x y
theorem Gh.refl(n0:Nat)(tm:List U)(X:Sg):Gh n0 tm X tm X:=fun F x tv hx h hf he=>⟨x,fun m w hf=>bP.refl hf,hx,h,hf,he,Ke.refl _ _⟩
theorem Gh.trans{tm' jH:List U}{X' bZ:Sg}(h:Gh n0 tm X tm' X')(h':Gh n0 tm' X' jH bZ):Gh n0 tm X jH bZ:=fun F x tv hx hh hf he=>by
 obtain⟨y,h1,h2,h3,h4,h5,h6⟩:=h F x tv hx hh hf he;obtain⟨z,g1,g2,g3,g4,g5,g6⟩:=h' F y tv h2 h3 h4 h5;exact⟨z,fun m w hf=>(h1 m w hf).trans (g1 m w (h1 m w hf).fits),g2,g3,g4,g5,h6.trans g6⟩
theorem cE{c:Code}{tm':List U}{X':Sg}(h:Gh n0 tm X tm' X')(z0:n0<=X'.nx)(hw:WPU C n0 c tm' X' Q):WPU C n0 c tm X Q:=fun hn F x tv m w a b0 hx st hG hd ro kH=>by
 obtain⟨y,h1,h2,h3,h4,h5,h6⟩:=h F x tv hx st.h st.fr st.e;have aT:=h1 m w st.fits;refine wpIn_mono (hw z0 F y tv m w a b0 h2 ⟨h3,h4,h5,aT.fits,st.act.ext aT.agree aT.nx⟩ (hG.adv st.fits aT h6) hd ro kH) ?_;rintro e a' w' ⟨z,jH,tv'',m'',g1,g2,g3,g4,g5,g6⟩;exact⟨z,jH,tv'',m'',g1,g2,aT.trans g3,h6.trans g4,g5,g6⟩
theorem WPU.after{c:Code}{Q':Exit->List U->Sg->Prop}(h:WPU C n0 c tm X Q')(hq:∀e tm X,n0<=X.nx->Q' e tm X->∃tm' X',n0<=X'.nx/\Gh n0 tm X tm' X'/\Q e tm' X'):WPU C n0 c tm X Q:=fun hn F x tv m w a b0 hx st hG hd ro kH=>by
 refine wpIn_mono (h hn F x tv m w a b0 hx st hG hd ro kH) ?_;rintro e a' w' ⟨y,tm',cX,m',h1,h2,h3,h4,h5,h6⟩;obtain⟨jH,bZ,q1,q2,q3⟩:=hq e tm' y.X h5 h1;obtain⟨z,g1,g2,g3,g4,g5,g6⟩:=q2 F y cX rfl h2.h h2.fr h2.e;have aT:=g1 m' w' h2.fits;exact⟨z,jH,cX,m',g2 ▸ q3,⟨g3,g4,g5,aT.fits,h2.act.ext aT.agree aT.nx⟩,h3.trans aT,h4.trans g6,g2 ▸ q1,h6⟩
variable{T:Tb}(hT:lF C.prog T)
include hT
theorem Ev(a9:Array Oper)(E:Exit->Act->World->Prop){F:Nat->lK->Prop}{x0:Cx}{m0:Nm}{w0:World}{df:List Deferred}(K:List U->Sg->Prop)(CH:VZ C n0 x0 m0 w0)(A4:i4 m0 x0.s w0)(ro:Option Nat)(kH:C.ro ro):
  ∀(rest:List Oper)(i:Nat),a9.toList.drop i=rest->∀(x:Cx)(tm:List U)(tv:List Value)(m:Nm)(w:World)(a:Act),St F x tm tv m w a->a.defers=df->bP m0 x0.s w0 m x.s w->Ke n0 x0 x->n0<=x.X.nx->RU C T a9.toList rest tm x.X K->
   (∀y tm' cX m' w' a',K tm' y.X->St F y tm' cX m' w' a'->bP m0 x0.s w0 m' y.s w'->Ke n0 x0 y->n0<=y.X.nx->a'.defers=df->E .normal a' w')->wpOpsIn (oM ro) 0 C.prog a9 E (List.range' i rest.length) a w
 |[],i,_,x,tm,tv,m,w,a,st,hd,aT,eI,hn,h,hQ=>by simp only[zS,List.range'_zero,wpOpsIn];exact hQ x tm tv m w a h st aT eI hn hd
 |o::rest,i,HK,x,tm,tv,m,w,a,st,hd,aT,eI,hn,h,hQ=>by
  have ho:a9[i]? = some o:=by have:=congrArg (fun l=>l[0]?) HK;simpa using this
  have bG:a9.toList.drop (i+1)=rest:=by have:=congrArg List.tail HK;simpa using this
  simp only[zO,List.range'_succ,wpOpsIn,ho,Pg (st.act m (aM.refl _ _)) a9 o];simp only[RU]at h;rcases h with⟨hw,u,X',h1,h2⟩|⟨hw,f,args,R,h1,h2,h3⟩|⟨hw,h1⟩|⟨hw,t,xo,yo,ty,e,b,l,h1,h2,h3,h4,h5⟩|⟨hw,R,h1,h2⟩;rw[vT st.e hw];simp only[if_true];refine AT (O8 h1) (st.op hT o h1 fun y cX aH w₁ bC e1 cR bO d7 jM iW=>?_);exact Ev a9 E K CH A4 ro kH rest (i+1) bG y _ cX aH w₁ bC cR (iW.trans hd) (aT.trans bO) (eI.trans (d7.le hn)) (by omega) (e1 ▸ h2) hQ;rw[vT st.e hw];simp only[if_true];refine AT (Pc h1) (st.call hT o h1 h2 fun y u cX aH w₁ bC hR cR bO d7 jM iW=>?_);exact Ev a9 E K CH A4 ro kH rest (i+1) bG y _ cX aH w₁ bC cR (iW.trans hd) (aT.trans bO) (eI.trans (d7.le hn)) (by omega) (h3 u y.X hR) hQ;rw[vT st.e hw];simp only[Bool.false_eq_true,if_false];exact⟨fun _ _=>trivial,Ev a9 E K CH A4 ro kH rest (i+1) bG x _ _ m w _ (st.skip o.dst) ((OZ _ _ _).trans hd) aT eI hn h1 hQ⟩;rw[vT st.e hw];simp only[if_true];refine AT (by rw[h1];intro c hc;cases hc) (st.nilq hT o h1 h2 h3 h4 fun z y cX aH w₁ bC hz e1 cR bO d7 jM iW=>?_);exact Ev a9 E K CH A4 ro kH rest (i+1) bG y _ cX aH w₁ bC cR (iW.trans hd) (aT.trans bO) (eI.trans (d7.le hn)) (by omega) (e1 ▸ h5 z hz) hQ;rw[vT st.e hw];simp only[if_true];refine h1 F x tv m w a _ _ rfl st ⟨Nat.le_trans CH.nb hn,(CH.adv A4 aT eI).g⟩ (fun u y cX aH w₁ bC hR cR bO d7 jM iW=>?_) ro kH;exact Ev a9 E K CH A4 ro kH rest (i+1) bG y _ cX aH w₁ bC cR (iW.trans hd) (aT.trans bO) (eI.trans (d7.le hn)) (by omega) (h2 u y.X hR) hQ
theorem WPU.region{id:Nat}{a9:Array Oper}(h:RU C T a9.toList a9.toList tm X (fun tm' X'=>Q .normal tm' X')):WPU C n0 (.region id a9 false) tm X Q:=fun hn F x tv m w a b0 hx st hG hd ro kH=>by
 subst hx;refine wpIn_region ?_;have:=Ev hT a9 (cj C n0 F x m w a.defers b0 Q) (F:=F) (x0:=x) (m0:=m) (w0:=w) (df:=a.defers) (fun tm' X'=>Q .normal tm' X') hG st.fits ro kH a9.toList 0 (by simp) x tm tv m w a st rfl (bP.refl st.fits) (Ke.refl _ _) hn h
  (fun y tm' cX m' w' a' h1 h2 h3 h4 h5 h6=>⟨y,tm',cX,m',h1,h2,h3,h4,h5,by rw[h6];exact hd.adv st.fits h3⟩)
 rw[List.range_eq_range'];simpa using this
end
def oK(T:Tb)(X:Sg)(tm:List U):List ResultVar->Option (List U)
 |[]=>some []|.tmp t::r=>match nth tm t with
  |some v=>(match oK T X tm r with
   |some l=>some (v::l)|none=>none)
  |none=>none
 |.cell a t::r=>match nC T X tm (.load t (.tmp a))with
  |some v=>(match oK T X tm r with
   |some l=>some (v::l)|none=>none)
  |none=>none
def oZ:List U->U
 |[v]=>v|l=>.tup l
theorem Oc{T:Tb}{x:Cx}(hx:kF x){tm:List U}{tv:List Value}(ht:bF x tm tv):∀{rs:List ResultVar}{us:List U},oK T x.X tm rs=some us->∃vs,GK T tv x.s rs=some vs/\bF x us vs
 |[],us,h=>by simp only[oK,zA]at h;subst h;exact⟨[],rfl,bF.nil x⟩
 |.tmp t::rs,us,h=>by simp only[oK,iZ]at h;rcases h1:tm[t]? with _|u;simp[h1]at h;rcases h2:oK T x.X tm rs with _|l;simp[h1,h2]at h;simp only[h1,h2,zA]at h;subst h;obtain⟨v,e1,e2⟩:=ht.get h1;obtain⟨vs,e3,e4⟩:=Oc hx ht h2;exact⟨v::vs,by simp[GK,iZ,e1,e3],bF.cons e2 e4⟩
 |.cell a t::rs,us,h=>by
  simp only[oK]at h;rcases h1:nC T x.X tm (.load t (.tmp a))with _|u;simp[h1]at h;rcases h2:oK T x.X tm rs with _|l;simp[h1,h2]at h;simp only[h1,h2,zA]at h;subst h;obtain⟨v,y,e1,e2,e3,e4⟩:=qz6 hx ht h1;obtain⟨vs,e5,e6⟩:=Oc hx ht h2;have hp:iV T tv (.load t (.tmp a))=none:=rfl;have he:u6 T tv x.s (.load t (.tmp a))=none:=rfl;have hc:callOf T tv (.load t (.tmp a))=none:=rfl;unfold AX at e1;simp only[hp,he,hc]at e1;rcases qC:nR T tv x.s (.load t (.tmp a))with _|v';simp[qC]at e1;simp only[qC,zA,zB]at e1;obtain⟨rfl,hs⟩:=e1;refine⟨v'::vs,by simp[GK,qC,e5],bF.cons ?_ e6⟩;have fW:Mo y.X.nx y x:=by refine⟨fun k hk rZ=>?_,fun i row e hl=>by rw[hs];exact hl⟩;rw[e2]at rZ ⊢;refine⟨rZ,fun b hb=>⟨b,hb,zF _,fun _=>⟨?_,fun l e sz st h=>⟨l,h⟩⟩⟩⟩;have:=(e4.mo.ref k (by rw[<-e2];exact hk) rZ).2 b (by rw[e2];exact hb);obtain⟨b',q1,q2,q3⟩:=this;rw[hb]at q1;cases q1;exact(q3 rfl).1.symm
  exact fW.ke u _ (aD.bel _ _ e3) e3
theorem z4l{us:List U}{vs:List Value}(h:bF x us vs):aD x (oZ us) (xN vs):=by
 match us,vs,h with
 |[],vs,h=>rw[h.nil_inv];simp only[oZ,xN,aD];exact⟨[],rfl,by simp[cT],rfl⟩|[u],vs,h=>obtain⟨v,vG,rfl,h1,h2⟩:=h.inv;rw[h2.nil_inv];exact h1
 |u::u'::us,vs,h=>obtain⟨v,vG,rfl,h1,h2⟩:=h.inv;obtain⟨v',vs'',rfl,h3,h4⟩:=h2.inv;simp only[oZ,xN,aD];exact⟨_,rfl,h.1,h.2⟩
def D5:Nat->List U->List U
 |0,l=>l|n+1,[]=>.tup []::D5 n []
 |n+1,v::l=>v::D5 n l
theorem Of{x:Cx}:∀(n:Nat){us:List U}{vs:List Value},bF x us vs->bF x (D5 n us) (pad n vs)
 |0,us,vs,h=>h|n+1,[],vs,h=>by rw[h.nil_inv];exact bF.cons (by simp only[aD];exact⟨[],rfl,by simp[cT],rfl⟩) (Of n (bF.nil x))
 |n+1,u::us,vs,h=>by obtain⟨v,vG,rfl,h1,h2⟩:=h.inv;exact bF.cons h1 (Of n h2)
section
variable{P:Program}{T:Tb}(hT:lF P T)
include hT
theorem Er{f:FuncId}{fn:Func}{c:Code}{args:List U}{X:Sg}{R:U->Sg->Prop}(hf:T.fn f=some fn)(hb:fn.body=some c)
  (h:WPU (PG.of P) X.nx c (D5 fn.ntmps args) X fun e tm' X'=>(e=.normal\/e=.ret)/\∃l,oK T X' tm' fn.results.toList=some l/\∃u' bZ,X.nx<=bZ.nx/\Gh X.nx [oZ l] X' [u'] bZ/\R u' bZ):bE P f args X R:=fun F x vs m w bH hx hh m7 he fN dB=>by
 obtain⟨A4,_⟩:=hT.fn f fn hf;have eR:bH.length=vs.length:=by rw[<-dB.at];simp
 refine calls_of_wp A4 hb ?_;have nL:xR m x.s.nx (pad fn.ntmps vs) { tmps:=bH.toArray++Array.replicate (fn.ntmps-bH.toArray.size) undef,defers:=[] }:=fun m' dJ=>by simp only[ed,yS,dB m' dJ,eR,List.size_toArray];apply Array.ext';simp[mR,aI,undef]
 refine wp_mono ((wpIn_wide (n:=0)).1 (h (zF _) F x _ m w _ 0 hx ⟨hh,m7,Of _ he,fN,nL⟩ ⟨Nat.zero_le _,trivial⟩ ⟨fun _=>rfl,fun h=>by cases h⟩ none trivial)) ?_;rintro e a' w' ⟨y,tm',cX,m',⟨A5,l,pJ,u',bZ,jM,Wd,hR⟩,cR,aT,eI,hn,X?⟩;have iW:a'.defers=[]:=X?.eq rfl;obtain⟨ls,K1,B5⟩:=Oc cR.h cR.e pJ;have cW:∀m'',aM y.s.nx m' m''->(results fn a'.tmps).run P w'=.ok (aI m'' (xN ls)) w':=fun m'' lR=>by rw[cR.act m'' lR];exact nq hT (cR.fits m'' lR) K1
 have gU:eZ m' y.s.nx (xN ls) (aI m' (xN ls)):=fun m'' lR=>by have e1:=cW m'' lR;rw[cW m' (aM.refl _ _)]at e1;simp at e1;exact e1.symm
 obtain⟨z,z1,z2,z3,z4,z5,z6⟩:=Wd F y [xN ls] rfl cR.h cR.fr (bF.cons (z4l B5) (bF.nil y));obtain⟨v0,Lo,e0,z7,_⟩:=z5.inv;cases e0;have d8:=z1 m' w' cR.fits;have DJ:bodyPost P fn (fun e w₁=>∃y aH u v cv,e=.returned cv/\R u y.X/\bP m x.s w aH y.s w₁/\eZ aH y.s.nx v cv/\kF y/\Fr F y/\aD y u v/\Ke x.X.nx x y/\x.X.nx<=y.X.nx) .ret a' w' :=
  ⟨iW,_,cW m' (aM.refl _ _),z,m',u',xN ls,_,rfl,z2 ▸ hR,aT.trans d8,gU.ext (aM.refl _ _) d8.nx,z3,z4,z7,hx ▸ eI.trans z6,by rw[hx,z2];exact jM⟩
 rcases A5 with rfl |rfl;exact DJ;exact DJ
end
theorem bE.mono{P:Program}{f:FuncId}{args:List U}{X:Sg}{R R':U->Sg->Prop}(h:bE P f args X R)(hr:∀u X',R u X'->R' u X'):bE P f args X R':=fun F x vs m w bH hx hh m7 he fN dB=>
 (h F x vs m w bH hx hh m7 he fN dB).mono fun _ _ ⟨y,aH,u,v,cv,h1,h2,h3⟩=>⟨y,aH,u,v,cv,h1,hr _ _ h2,h3⟩
end Go.Vx
namespace Go.Vx
open Go Go.Rx
theorem bE.pure{P:Program}{f:FuncId}{args:List U}{R:U->Prop}(h:bE P f args ⟨[],0⟩ (fun u _=>R u/\bB 0 u))(ha:aL 0 args)(X:Sg):bE P f args X (fun u X'=>R u/\X'=X):=fun F x vs m w bH hx hh m7 he fN dB=>by
 have h0:kF ⟨fun _=>none,⟨[],0⟩,x.s⟩:=⟨fun k b hb=>by simp[gt]at hb,fun k k' b b' i hb=>by simp[gt]at hb,hh.bd⟩;have u?:Mo 0 x ⟨fun _=>none,⟨[],0⟩,x.s⟩:=⟨fun k hk=>by omega,fun _ _ _ h=>h⟩;refine(h (fun i b=>lk x.s.h i=some b) ⟨fun _=>none,⟨[],0⟩,x.s⟩ vs m w bH rfl h0 (fun i b hb=>⟨hb,fun k c hc=>by simp[gt]at hc⟩) (u?.ke.E ha he) fN dB).mono ?_;rintro e w₁ ⟨y,aH,u,v,cv,rfl,⟨hR,eR⟩,aT,gU,Wb,wX,DH,_,_⟩;have fW:Mo x.X.nx x ⟨x.Y,x.X,y.s⟩:=⟨fun k _ h2=>⟨h2,fun b hb=>⟨b,hb,zF _,fun _=>⟨rfl,fun l e sz st h=>⟨l,h⟩⟩⟩⟩,fun i row e hl=>(wX i _ hl).1⟩;have hm1:Mo 0 y ⟨x.Y,x.X,y.s⟩:=⟨fun k hk=>by omega,fun _ _ _ h=>h⟩;refine⟨⟨x.Y,x.X,y.s⟩,aH,u,v,cv,rfl,⟨hR,hx⟩,aT,gU,⟨fun k b hb=>?_,hh.inj,Wb.bd⟩,fun i b hb=>?_,hm1.ke u v eR DH,fW.ke,zF _⟩;obtain⟨h1,h2⟩:=hh.ok k b hb;exact⟨h1,h2.mono fW rfl fun i c _ hl=>(wX i c hl).1⟩;obtain⟨h1,h2⟩:=m7 i b hb;exact⟨(wX i b h1).1,h2⟩
def BelB(n:Nat):B->Prop
 |.row l _=>aL n l|.vec l _ _ _=>aL n l
 |.map es _=>∀e∈es,bB n e.key/\bB n e.val
def GR(n:Nat):List (Nat×B)->Prop
 |[]=>True|(_,b)::h=>BelB n b/\GR n h
def cut(n:Nat):List (Nat×B)->List (Nat×B)
 |[]=>[]|(k,b)::h=>cond (Nat.blt k n) ((k,b)::cut n h) (cut n h)
theorem Fu(n:Nat)(h:List (Nat×B))(k:Nat):gt (cut n h) k=if k<n then gt h k else none:=by
 induction h with|nil=>simp[cut,gt]|cons p h ih=>obtain⟨j,b⟩:=p;simp only[cut];by_cases hj:j<n;rw[oQ hj];simp only[zC,dY,ih];by_cases nK:j=k;subst nK;simp[hj];simp[nK];rw[H8 hj];simp only[zD,dY,ih];by_cases nK:j=k;subst nK;simp[hj];simp[nK]
theorem z6o{n:Nat}{h:List (Nat×B)}(hb:GR n h){k:Nat}{b:B}(hg:gt h k=some b):BelB n b:=by
 induction h with|nil=>simp[gt]at hg|cons p h ih=>obtain⟨j,c⟩:=p;simp only[GR]at hb;simp only[dY]at hg;split at hg;cases hg;exact hb.1;exact ih hb.2 hg
theorem oE.monoB{n:Nat}{x y:Cx}{k:Nat}{b:B}(h:oE x k b)(hb:BelB n b)(hm:Mo n x y)(kO:y.Y k=x.Y k)(hl:∀i c,x.Y k=some i->lk x.s.h i=some c->lk y.s.h i=some c):oE y k b:=by
 cases b with
 |row l e=>obtain⟨k1,i,l',e1,e2,e3⟩:=h;exact⟨k1,i,l',by rw[kO,e1],hl _ _ e1 e2,hm.ke.E hb e3⟩
 |vec l e sz st=>obtain⟨k1,k2,h3⟩:=h;refine⟨k1,k2,?_⟩;rcases h3 with⟨h3,h4⟩|⟨i,l',e1,e2,e3⟩;exact .inl ⟨h3,by rw[kO,h4]⟩;exact .inr ⟨i,l',by rw[kO,e1],hl _ _ e1 e2,hm.ke.E hb e3⟩
 |map es cl=>obtain⟨i,es',e1,e2,e3⟩:=h;refine⟨i,es',by rw[kO,e1],hl _ _ e1 e2,e3.1,fun j e he=>?_⟩;obtain⟨v,q1,q2,q3,q4⟩:=e3.2 j e he;have:=hb e (zX he);exact⟨v,q1,hm.ke _ _ this.1 q2,hm.ke _ _ this.2 q3,q4⟩
def EV:List Bool->List U->List U
 |true::l,_::tm=>.junk::EV l tm|false::l,u::tm=>u::EV l tm
 |_,tm=>tm
theorem fc{x:Cx}:∀(l:List Bool){tm:List U}{tv:List Value},bF x tm tv->bF x (EV l tm) tv
 |[],tm,tv,h=>by cases tm<;>exact h
 |true::l,[],tv,h=>h|false::l,[],tv,h=>h
 |true::l,u::tm,tv,h=>by obtain⟨v,vs,rfl,h1,h2⟩:=h.inv;exact bF.cons (by simp[aD]) (fc l h2)
 |false::l,u::tm,tv,h=>by obtain⟨v,vs,rfl,h1,h2⟩:=h.inv;exact bF.cons h1 (fc l h2)
theorem Gh.junk(n0:Nat)(l:List Bool)(tm:List U)(X:Sg):Gh n0 tm X (EV l tm) X:=fun F x tv hx h hf he=>⟨x,fun m w hf=>bP.refl hf,hx,h,hf,fc l he,Ke.refl _ _⟩
theorem Gh.cut{n0 n1:Nat}{tm:List U}{X:Sg}(h1:n0<=n1)(h2:n1<=X.nx)(hb:aL n1 tm)(hh:GR n1 (Vx.cut n1 X.h)):Gh n0 tm X tm ⟨Vx.cut n1 X.h,n1⟩:=fun F x tv hx hr hf he=>by
 subst hx;have fW:Mo n1 x ⟨x.Y,⟨Vx.cut n1 x.X.h,n1⟩,x.s⟩:=by refine⟨fun k hk _=>⟨hk,fun b hb=>?_⟩,fun _ _ _ h=>h⟩;simp only[Fu,hk,if_true]at hb;exact⟨b,hb,zF _,fun _=>⟨rfl,fun l e sz st h=>⟨l,h⟩⟩⟩
 have sub:∀{k b},gt (Vx.cut n1 x.X.h) k=some b->k<n1/\gt x.X.h k=some b:=fun{k b} hg=>by simp only[Fu]at hg;split at hg;exact⟨by assumption,hg⟩;cases hg
 refine⟨⟨x.Y,⟨Vx.cut n1 x.X.h,n1⟩,x.s⟩,fun m w hf=>bP.refl hf,rfl,⟨fun k b hg=>?_,fun k k' b b' i g1 g2=>hr.inj k k' b b' i (sub g1).2 (sub g2).2,hr.bd⟩,fun i b J=>?_,fW.ke.E hb he,fW.ke.le h1⟩;exact⟨(sub hg).1,(hr.ok k b (sub hg).2).2.monoB (z6o hh hg) fW rfl fun _ _ _ h=>h⟩;exact⟨(hf i b J).1,fun k c hc=>(hf i b J).2 k c (sub hc).2⟩
theorem qze{l:List Value}{i:Nat}{v:Value}(h:l[i]? = some v):l.set i v=l:=by
 apply List.ext_getElem?;intro j;rw[List.getElem?_set];split;rename_i e;subst e;have:=(zG.1 h).1;simp only[this,if_true];exact h.symm;rfl
theorem Gh.nilvec{n0:Nat}{tm:List U}{X:Sg}(i:Nat)(e:TypeId)(sz:Nat)(dR:0<sz)(h0:n0<=X.nx)(hi:nth tm i=some .nils):Gh n0 tm X (tm.set i (.vl X.nx 0 0 0)) (newU X (.vec [] e sz 0)):=fun F x tv hx hr hf he=>by
 subst hx;have ho:=xz hr e sz dR;rw[iZ]at hi;obtain⟨v,h1,h2⟩:=he.get hi;simp only[aD]at h2;subst h2;refine⟨⟨mA x.Y x.X.nx none,newU x.X (.vec [] e sz 0),x.s⟩,fun m w hf=>bP.refl hf,rfl,ho.h,ho.fr F hf,?_,ho.mo.ke.le h0⟩;have:=(ho.mo.ke.E he.bel he).set i (og (x:=x) (e:=e) (sz:=sz) (o:=none) (by simp))
 rwa [qze h1]at this
theorem bP.freeze{m:Nm}{s:S}{w:World}(h:i4 m s w){i:Nat}{l:List Value}{e md e1:Nat}(hl:lk s.h i=some (.inl (l,e,md)))(qE:md=0/\e1=0\/∃sz,md=sz+2/\e1=sz+1):
  bP m s w m ⟨up s.h i (.inl (l,e1,1)),s.nx⟩ w:=by
 have old:∀j c,lk (up s.h i (.inl (l,e1,1))) j=some c->∃d,lk s.h j=some d/\(Own c=true->Own d=true)/\(j≠i->c=d):=fun j c hc=>by simp only[AP]at hc;by_cases lS:i=j;subst lS;simp only[if_true,hl,zM,zA]at hc;subst hc;exact⟨_,hl,fun h=>by simp[Own]at h,fun h=>absurd rfl h⟩;simp only[lS,if_false]at hc;exact⟨c,hc,id,fun _=>rfl⟩
 refine⟨aM.refl _ _,zF _,fun m' ha=>?_,?_,fun _ _ _=>rfl,zF _,rfl,rfl,rfl⟩;have hf:=h m' ha;refine⟨fun j c hc=>?_,fun j k c d hc hd nK ho=>?_,fun j c hc=>?_⟩;by_cases lS:j=i;subst lS;simp only[AP,if_true,hl,zM,zA]at hc;subst hc;have hr:D7 m' j l e w md:=hf.ok j _ hl;rcases qE with⟨rfl,rfl⟩|⟨sz,rfl,rfl⟩;obtain⟨h0,h1⟩:=hr;exact⟨_,_,_,h1,fun k v hk=>by simp[h0,mR,hk],fun n hn=>absurd hn (by simp)⟩;obtain⟨pr,rest,h1,h2,h3⟩:=hr;refine⟨_,_,_,h1,fun k v hk=>?_,fun n hn=>?_⟩;have aE:k<l.length:=(zG.1 hk).1;simp only[List.getElem?_toArray,zT,<-h2];rw[List.getElem?_append_right (by omega),Nat.add_sub_cancel_left,List.getElem?_append_left (by simpa using aE)];simp[mR,hk];have:n=sz:=(Nat.succ.inj hn).symm;subst this;exact Nat.le_of_add_right_le (Nat.le_of_eq h3);obtain⟨d,h1,_,h3⟩:=old j c hc;rw[h3 lS];exact hf.ok j d h1;obtain⟨c',h1,h2,_⟩:=old j c hc;obtain⟨d',h3,_,_⟩:=old k d hd;exact hf.inj j k c' d' h1 h3 nK (h2 ho);obtain⟨d,h1,_⟩:=old j c hc;exact hf.bd j d h1;rintro b ⟨j,c,hc,ho,rfl⟩;obtain⟨d,h1,h2,_⟩:=old j c hc;exact .inl ⟨j,d,h1,h2 ho,rfl⟩
def cD(sz:Nat):Nat->List U->List (List U)
 |0,_=>[]|n+1,l=>l.take sz::cD sz n (l.drop sz)
theorem oa(sz n:Nat)(l:List U):(cD sz n l).length=n:=by
 induction n generalizing l with|zero=>rfl|succ n ih=>simp[cD,ih]
theorem nz{x:Cx}{sz:Nat}:∀(n:Nat){l:List U}{vs:List Value},cT x l vs->okL l=true->n*sz<=l.length->iO x sz (cD sz n l) vs
 |0,l,vs,h,hk,hl=>by simp[cD,iO]
 |n+1,l,vs,h,hk,hl=>by rw[Nat.succ_mul]at hl;simp only[cD,iO];refine⟨by simp;omega,OP hk _,?_,nz n (h.drop sz) (HA hk _) (by simp;omega)⟩;rw[J7]at h ⊢;intro i u hu;rw[List.getElem?_take]at hu;split at hu;exact h i u hu;cases hu
mutual
def fz(K:Nat)(b:B)(sz:Nat):U->U
 |.sl k off n c=>cond (Nat.beq k K) (match b with
  |.row l _=>if off+n*sz<=l.length then .isl false (cD sz n (l.drop off))else .sl k off n c|_=>.sl k off n c) (.sl k off n c)
 |.vl k st off n=>cond (Nat.beq k K) (match b with
  |.vec l _ iY cR=>if cR=st/\(off+n)*iY<=l.length then .isl false (cD iY n (l.drop (off*iY)))else .vl k st off n|_=>.vl k st off n) (.vl k st off n)
 |.ptr k st off=>cond (Nat.beq k K) (match b with
  |.row l _=>if st=0 then .iptr (l.drop off)else .ptr k st off|_=>.ptr k st off) (.ptr k st off)
 |.agg l=>.agg (jT K b sz l)|.tup l=>.tup (jT K b sz l)
 |.fn f a c=>.fn f (jT K b sz a) (jT K b sz c)|u=>u
def jT(K:Nat)(b:B)(sz:Nat):List U->List U
 |[]=>[]|u::l=>fz K b sz u::jT K b sz l
end
def fzB(K:Nat)(b:B)(sz:Nat):B->B
 |.row l e=>.row (jT K b sz l) e|.vec l e s st=>.vec (jT K b sz l) e s st
 |.map es cl=>.map (es.map fun e=>{ e with val:=fz K b sz e.val }) cl
def fzH(K:Nat)(b:B)(sz:Nat):List (Nat×B)->List (Nat×B)
 |[]=>[]|(k,c)::h=>cond (Nat.beq k K) (fzH K b sz h) ((k,fzB K b sz c)::fzH K b sz h)
theorem Ft(K:Nat)(b:B)(sz:Nat)(h:List (Nat×B))(k:Nat):gt (fzH K b sz h) k=if k=K then none else(gt h k).map (fzB K b sz):=by
 induction h with|nil=>simp[fzH,gt]|cons p h ih=>obtain⟨j,c⟩:=p;simp only[fzH,beq_eq];by_cases hj:j=K;subst hj;simp only[yC,zC,ih,dY];by_cases hk:k=j;simp[hk];simp[hk,Ne.symm hk];simp only[hj,yB,zD,dY,ih];by_cases hk:j=k;subst hk;simp[hj];simp[hk]
theorem Cq(K:Nat)(b:B)(sz:Nat)(c:B):(fzB K b sz c).st=c.st:=by cases c<;>rfl
theorem Co(K:Nat)(b:B)(sz:Nat)(u:U)(h:okC u=true):okC (fz K b sz u)=true:=by
 cases u with
 |sl k off n c=>
  simp only[fz];rcases Nat.beq k K with _|_;rfl;simp only[zC];cases b with
  |row l e=>simp only;split<;>rfl|_=>rfl
 |vl k st off n=>
  simp only[fz];rcases Nat.beq k K with _|_;rfl;simp only[zC];cases b with
  |vec l e s st=>simp only;split<;>rfl|_=>rfl
 |ptr k st off=>
  simp only[fz];rcases Nat.beq k K with _|_;rfl;simp only[zC];cases b with
  |row l e=>simp only;split<;>rfl|_=>rfl
 |agg l=>simp[okC]at h|tup l=>simp[okC]at h
 |junk=>simp[okC]at h|_=>simp only[fz];first |exact h |rfl
theorem wh(K:Nat)(b:B)(sz:Nat):∀l:List U,okL l=true->okL (jT K b sz l)=true
 |[],_=>rfl|u::l,h=>by simp only[okL]at h;obtain⟨h1,h2⟩:=MK h;simp[jT,okL,Co K b sz u h1,wh K b sz l h2]
theorem YB(K:Nat)(b:B)(sz:Nat):∀l:List U,(jT K b sz l).length=l.length
 |[]=>rfl|u::l=>by simp[jT,YB K b sz l]
section
variable{x y:Cx}{K:Nat}{b:B}{sz:Nat}(hg:gt x.X.h K=some b)(hb:oE x K b)(fW:Mo x.X.nx x y)
 (dA:∀i l e md,x.Y K=some i->lk x.s.h i=some (.inl (l,e,md))->(md=0/\lk y.s.h i=some (.inl (l,0,1)))\/∃s,md=s+2/\lk y.s.h i=some (.inl (l,s+1,1)))
include hg hb fW dA
mutual
theorem z9f:(u:U)->(v:Value)->aD x u v->aD y (fz K b sz u) v
 |.sl k off n c,v,h=>by
  have keep:=fW.ke _ _ (aD.bel _ _ h) h;simp only[fz,beq_eq];by_cases hk:k=K;subst hk;simp only[yC,zC];cases b with
  |row l e=>simp only;split;rename_i b7;obtain⟨i,hi,rfl,hc,v7⟩:=OK (x:=x) (by simp[bU,hg,B.st]) h;obtain⟨k1,i',l',e1,e2,e3⟩:=hb;rw[hi]at e1;cases e1;have e4:cT y l l':=(fW.ke.E e3.bel e3).1;rcases dA i l' e 0 hi e2 with⟨_,hl⟩|⟨s,hs,_⟩;simp only[aD,oa];refine .inr ⟨i,off,c,rfl,(fun ht=>by cases ht),?_⟩;by_cases hn:n=0;exact .inl (List.eq_nil_of_length_eq_zero (by rw[oa,hn]));exact .inr ⟨l',0,sz,hl,nz n (e4.drop off) (HA k1 _) (by simp;omega),.inl ⟨hc,v7⟩⟩;omega;exact keep
  |_=>exact keep
  simp only[hk,yB,zD];exact keep
 |.vl k st off n,v,h=>by
  have keep:=fW.ke _ _ (aD.bel _ _ h) h;simp only[fz,beq_eq];by_cases hk:k=K;subst hk;simp only[yC,zC];cases b with
  |vec l e iY cR=>
   simp only;split;rename_i b7;obtain⟨rfl,b7⟩:=b7;obtain⟨l0,e0,s0,g1,g2⟩:=Y9 (x:=x) (by simp[bU,hg,B.st]) h;have:=hg.symm.trans g1;cases this;obtain⟨k1,k2,h3⟩:=hb;rcases h3 with⟨rfl,h4⟩|⟨i,l',e1,e2,e3⟩;rw[h4]at g2;obtain⟨rfl,rfl,o,rfl,ho⟩:=g2;simp only[aD,cD];rcases o with _|a;exact .inl ⟨trivial,.inl rfl⟩;exact .inr ⟨a.block,a.off,0,by obtain⟨q1,q2,q3⟩:=a;have:=ho _ rfl;simp only at this;subst this;rfl,by simp,.inl trivial⟩;rw[e1]at g2;have e4:cT y l l':=(fW.ke.E e3.bel e3).1;rcases dA i l' e _ e1 e2 with⟨h0,_⟩|⟨s,hs,hl⟩;omega;have:s=iY:=by omega
   subst this;simp only[aD,oa];rcases g2 with⟨_,rfl,a,c,rfl,ha⟩|rfl;exact .inr ⟨a.block,a.off,c,by obtain⟨q1,q2,q3⟩:=a;simp only at ha;subst ha;rfl,by simp,.inl rfl⟩;refine .inr ⟨i,off*s,bX+off,rfl,by simp,?_⟩;rw[Nat.add_mul]at b7;exact .inr ⟨l',s+1,s,hl,nz n (e4.drop _) (HA k1 _) (by simp;omega),.inr ⟨by omega,rfl,k2,by simp[bQ],by rw[<-e3.2];exact b7⟩⟩;exact keep
  |_=>exact keep
  simp only[hk,yB,zD];exact keep
 |.ptr k st off,v,h=>by
  have keep:=fW.ke _ _ (aD.bel _ _ h) h;simp only[fz,beq_eq];by_cases hk:k=K;subst hk;simp only[yC,zC];cases b with
  |row l e=>simp only;split;rename_i bY;subst bY;obtain⟨i,hi,rfl⟩:=YG (x:=x) (by simp[bU,hg,B.st]) h;obtain⟨k1,i',l',e1,e2,e3⟩:=hb;rw[hi]at e1;cases e1;have e4:cT y l l':=(fW.ke.E e3.bel e3).1;rcases dA i l' e 0 hi e2 with⟨_,hl⟩|⟨s,hs,_⟩;simp only[aD];exact⟨i,off,l',0,rfl,hl,e4.drop off,HA k1 _⟩;omega;exact keep
  |_=>exact keep
  simp only[hk,yB,zD];exact keep
 |.agg l,v,h=>by simp only[aD,fz]at*;obtain⟨vs,rfl,h1,h2,h3⟩:=h;exact⟨vs,rfl,Gl l vs h1,by rw[YB];exact h2,wh K b sz l h3⟩
 |.tup l,v,h=>by simp only[aD,fz]at*;obtain⟨vs,rfl,h1,h2⟩:=h;exact⟨vs,rfl,Gl l vs h1,by rw[YB];exact h2⟩
 |.fn f p q,v,h=>by simp only[aD,fz]at*;obtain⟨va,vb,rfl,h1,h2,h3,h4⟩:=h;exact⟨va,vb,rfl,Gl p va h1,by rw[YB];exact h2,Gl q vb h3,by rw[YB];exact h4⟩
 |.junk,v,h=>by simp[fz,aD]
 |.bool _,v,h=>by simpa[fz,aD]using h
 |.int _ _,v,h=>by simpa[fz,aD]using h
 |.str _,v,h=>by simpa[fz,aD]using h
 |.nilp,v,h=>by simpa[fz,aD]using h
 |.nils,v,h=>by simpa[fz,aD]using h
 |.nilm,v,h=>by simpa[fz,aD]using h
 |.nilf,v,h=>by simpa[fz,aD]using h
 |.nili,v,h=>by simpa[fz,aD]using h
 |.map k,v,h=>by simp only[fz];exact fW.ke _ _ (aD.bel _ _ h) h
 |.iptr l,v,h=>by simp only[fz];exact fW.ke _ _ (aD.bel _ _ h) h
 |.isl t l,v,h=>by simp only[fz];exact fW.ke _ _ (aD.bel _ _ h) h
theorem Gl:(l:List U)->(vs:List Value)->cT x l vs->cT y (jT K b sz l) vs
 |[],vs,h=>by have _:=hg;have _:=hb;have _:=fW;have _:=dA;simp[jT,cT]
 |u::l,[],h=>by simp[cT]at h
 |u::l,v::vs,h=>by simp only[cT,jT]at*;exact⟨z9f u v h.1,Gl l vs h.2⟩
end
end
theorem Gh.freeze{n0:Nat}{tm:List U}{X:Sg}{K:Nat}{b:B}(sz:Nat)(hg:gt X.h K=some b)(hb:∀es cl,b≠.map es cl):Gh n0 tm X (jT K b sz tm) ⟨fzH K b sz X.h,X.nx⟩:=fun F x tv hx hr hf he=>by
 subst hx;obtain⟨hK,hB⟩:=hr.ok K b hg;have hs:∃s':S,(∀m w,i4 m x.s w->bP m x.s w m s' w)/\(∀i c,lk x.s.h i=some c->x.Y K≠some i->lk s'.h i=some c)/\(∀i c,lk s'.h i=some c->i<s'.nx)/\
   (∀i l e md,x.Y K=some i->lk x.s.h i=some (.inl (l,e,md))->(md=0/\lk s'.h i=some (.inl (l,0,1)))\/∃s,md=s+2/\lk s'.h i=some (.inl (l,s+1,1))):=by
  have act:∀i l e md e1,x.Y K=some i->lk x.s.h i=some (.inl (l,e,md))->(md=0/\e1=0\/∃sz,md=sz+2/\e1=sz+1)->∃s':S,(∀m w,i4 m x.s w->bP m x.s w m s' w)/\(∀i c,lk x.s.h i=some c->x.Y K≠some i->lk s'.h i=some c)/\(∀i c,lk s'.h i=some c->i<s'.nx)/\
   (∀i l e md,x.Y K=some i->lk x.s.h i=some (.inl (l,e,md))->(md=0/\lk s'.h i=some (.inl (l,0,1)))\/∃s,md=s+2/\lk s'.h i=some (.inl (l,s+1,1))):=by
   intro i l e md e1 hi hl qE;refine⟨⟨up x.s.h i (.inl (l,e1,1)),x.s.nx⟩,fun m w hf=>bP.freeze hf hl qE,fun j c hc cZ=>?_,fun j c hc=>?_,fun j l' e' md' hj G4=>?_⟩;have:i≠j:=fun h=>cZ (by rw[hi,h]);simp[AP,this,hc];simp only[AP]at hc;split at hc;rename_i h;subst h;exact hr.bd _ _ hl;exact hr.bd j c hc;rw[hi]at hj;cases hj;rw[hl]at G4;cases G4;rcases qE with⟨rfl,rfl⟩|⟨s,rfl,rfl⟩
   exact .inl ⟨rfl,by simp[AP,hl]⟩;exact .inr ⟨s,rfl,by simp[AP,hl]⟩
  cases b with
  |map es cl=>exact absurd rfl (hb es cl)|row l e=>obtain⟨_,i,l',e1,e2,_⟩:=hB;exact act i l' e 0 0 e1 e2 (.inl ⟨rfl,rfl⟩)
  |vec l e s st=>obtain⟨_,_,h3⟩:=hB;rcases h3 with⟨_,h4⟩|⟨i,l',e1,e2,_⟩;exact⟨x.s,fun m w hf=>bP.refl hf,fun i c hc _=>hc,hr.bd,fun i l e md hi=>by rw[h4]at hi;cases hi⟩;exact act i l' e (s+2) (s+1) e1 e2 (.inr ⟨s,rfl,rfl⟩)
 obtain⟨s',a1,a2,a3,a4⟩:=hs;have sub:∀{k c},gt (fzH K b sz x.X.h) k=some c->k≠K/\∃d,gt x.X.h k=some d/\c=fzB K b sz d:=fun{k c} h=>by rw[Ft]at h;split at h;cases h;rename_i hk;rcases hd:gt x.X.h k with _|d;simp[hd]at h;simp[hd]at h;exact⟨hk,d,rfl,h.symm⟩
 have fW:Mo x.X.nx x ⟨x.Y,⟨fzH K b sz x.X.h,x.X.nx⟩,s'⟩:=by refine⟨fun k _ h2=>⟨h2,fun c hc=>?_⟩,fun i row e hl=>a2 i _ hl fun h=>hB.not1 h hl⟩;obtain⟨_,d,h1,rfl⟩:=sub hc;refine⟨d,h1,by rw[Cq];exact zF _,fun _=>⟨rfl,fun l e s st h=>?_⟩⟩;subst h;exact⟨_,rfl⟩
 have We:=fun u v h=>z9f (y:=⟨x.Y,⟨fzH K b sz x.X.h,x.X.nx⟩,s'⟩) (sz:=sz) hg hB fW a4 u v h;have Bv:∀{l:List U}{vs:List Value},bF x l vs->bF ⟨x.Y,⟨fzH K b sz x.X.h,x.X.nx⟩,s'⟩ (jT K b sz l) vs:=fun{l vs} h=>⟨Gl hg hB fW a4 l vs h.1,by rw[YB];exact h.2⟩;refine⟨⟨x.Y,⟨fzH K b sz x.X.h,x.X.nx⟩,s'⟩,a1,rfl,⟨fun k c hc=>?_,fun k k' c c' i h1 h2=>?_,a3⟩,fun i c hc=>?_,Bv he,fun u v _ h=>fW.ke u v (aD.bel _ _ h) h⟩;obtain⟨hk,d,h1,rfl⟩:=sub hc;obtain⟨h2,h3⟩:=hr.ok k d h1;refine⟨h2,?_⟩;have cZ:∀i,x.Y k=some i->x.Y K≠some i:=fun i h h'=>hk (hr.inj k K d b i h1 hg h h');cases d with
 |row l e=>obtain⟨k1,i,l',e1,e2,e3⟩:=h3;exact⟨wh _ _ _ _ k1,i,l',e1,a2 i _ e2 (cZ i e1),Bv e3⟩
 |vec l e s st=>obtain⟨k1,k2,h3⟩:=h3;refine⟨wh _ _ _ _ k1,k2,?_⟩;rcases h3 with⟨rfl,h4⟩|⟨i,l',e1,e2,e3⟩;exact .inl ⟨rfl,h4⟩;exact .inr ⟨i,l',e1,a2 i _ e2 (cZ i e1),Bv e3⟩
 |map es cl=>obtain⟨i,es',e1,e2,e3⟩:=h3;refine⟨i,es',e1,a2 i _ e2 (cZ i e1),by simp[e3.1],fun j e he=>?_⟩;rw[List.getElem?_map]at he;rcases hj:es[j]? with _|e0;simp[hj]at he;simp[hj]at he;subst he;obtain⟨v,q1,q2,q3,q4⟩:=e3.2 j e0 hj;exact⟨v,q1,fW.ke _ _ (aD.bel _ _ q2) q2,We _ _ q3,q4⟩
 obtain⟨_,d,g1,_⟩:=sub h1;obtain⟨_,d',g2,_⟩:=sub h2;exact hr.inj k k' d d' i g1 g2;obtain⟨h1,h2⟩:=hf i c hc;refine⟨a2 i c h1 (h2 K b hg),fun k d hd=>?_⟩;obtain⟨_,d',g1,_⟩:=sub hd;exact h2 k d' g1
end Go.Vx
