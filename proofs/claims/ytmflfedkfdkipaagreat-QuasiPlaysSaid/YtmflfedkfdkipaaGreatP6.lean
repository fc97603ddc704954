import Derived.CallsIn
import Derived.OrdersIn
import Derived.Test.YtmflfedkfdkipaaGreatP5
set_option linter.all false
namespace Go.Vx
open Go Go.Rx
def eH(tm:X U)(d:V Tmp)(u:U):X U:=match d with
 |none=>tm|some d=>tm.set d u
variable{x:Cx}
variable{tm:X U}
def KV{tv:X Value}(h:bA x tm tv){u:U}{v:Value}(hu:aC x u v)(d:V Tmp):bA x (eH tm d u) (BX tv d v):=by rcases d with _|d;exact h;exact h.set d hu
structure St(F:Nat->mI->Prop)(x:Cx)(tm:X U)(tv:X Value)(m:Nm)(w:Nr)(a:Act):Prop where
 h:iZ x
 fr:Fr F x
 e:bA x tm tv
 fits:gD m x.s w
 act:AF m x.s.nx tv a
def aW(P:DC)(f:FuncId)(args:X U)(Y:Sg)(Q:U->Sg->Prop):Prop :=
 ∀F x vs m w cargs,x.Y=Y->iZ x->Fr F x->bA x args vs->gD m x.s w->nS m x.s.nx vs cargs->
  Calls P f cargs.toArray w fun e w₁=>∃y aL u v cv,e=.returned cv/\Q u y.Y/\bT m x.s w aL y.s w₁/\iY aL y.s.nx v cv/\iZ y/\Fr F y/\aC y u v/\Ke x.Y.nx x y/\x.Y.nx<=y.Y.nx
def Mo.nx{x y:Cx}(h:Mo x.Y.nx x y):x.Y.nx<=y.Y.nx:=by cases hn:x.Y.nx with|zero=>omega|succ n=>have:=(h.ref n qq0 qq0).1;omega
def T1(P:DC):Gv P nc:=fun f args s v bR h=>by simp[nc]at h
def HC(a:Act)(d:V Tmp)(v:Value):(a.put d v).defers=a.defers:=by cases d<;>rfl
section
variable{P:DC}{T:Tb}(hT:j0 P T){F:Nat->mI->Prop}{x:Cx}{tm:X U}{tv:X Value}{m:Nm}{w:Nr}{a:Act}
include hT
variable{next:Act->Nr->Prop}
variable{Q:Exit->Act->Nr->Prop}
def St.op(st:St F x tm tv m w a)(o:Oper){u:U}{Y':Sg}(h:bI T x.Y tm o.op=some (u,Y'))
  (hn:∀y dJ aL w₁ bD,y.Y=Y'->St F y (eH tm o.dst u) dJ aL w₁ bD->bT m x.s w aL y.s w₁->Ke x.Y.nx x y->x.Y.nx<=y.Y.nx->bD.defers=a.defers->next bD w₁):o.wp P a w next Q:=by obtain⟨v,y,h1,h2,h3,h4⟩:=ZS st.h st.e h;refine SY hT (T1 P) st.fits st.act o h1 fun aL w₁ cv aS iP=>?_;exact hn y (BX tv o.dst v) aL w₁ _ h2 ⟨h4.h,h4.fr F st.fr,KV (h4.mo.ke.E st.e.bel st.e) h3 _,aS.fits,(st.act.ext aS.agree aS.nx).put iP o.dst⟩ aS h4.mo.ke h4.mo.nx (HC _ _ _)
def St.call(st:St F x tm tv m w a)(o:Oper){f:FuncId}{args:X U}(h:jO T tm o.op=some (f,args)){R:U->Sg->Prop}(jJ:aW P f args x.Y R)
  (hn:∀y u dJ aL w₁ bD,R u y.Y->St F y (eH tm o.dst u) dJ aL w₁ bD->bT m x.s w aL y.s w₁->Ke x.Y.nx x y->x.Y.nx<=y.Y.nx->bD.defers=a.defers->next bD w₁):o.wp P a w next Q:=by obtain⟨vs,h1,h2⟩:=z4f st.e h;obtain⟨cargs,g1,g2⟩:=qqb hT st.act o w h1;unfold Oper.wp;rw[g1];show Calls P f _ w _;refine(jJ F x vs m w cargs rfl st.h st.fr h2 st.fits g2).mono ?_;rintro e w₁ ⟨y,aL,u,v,cv,rfl,hR,aS,iP,hh,fG,yW,iH,iR⟩;exact hn y u (BX tv o.dst v) aL w₁ _ hR ⟨hh,fG,KV (iH.E st.e.bel st.e) yW _,aS.fits,(st.act.ext aS.agree aS.nx).put iP o.dst⟩ aS iH iR (HC _ _ _)
def St.nilq(st:St F x tm tv m w a)(o:Oper){t e ty:TypeId}{xo yo:Xt}{b:PE}{l:X (X U)}(ho:o.op=.binOp .eql t xo yo ty)(hd:T.und t=some (.slice e))(hx:cG tm xo=some (.isl b l))(hy:cG tm yo=some .nils)
  (hn:∀(z:PE) y dJ aL w₁ bD,(z=true->l=[])->y.Y=x.Y->St F y (eH tm o.dst (.bool z)) dJ aL w₁ bD->bT m x.s w aL y.s w₁->Ke x.Y.nx x y->x.Y.nx<=y.Y.nx->bD.defers=a.defers->next bD w₁):o.wp P a w next Q:=by
 obtain⟨vx,ex,rx⟩:=jF st.e hx;obtain⟨vy,ey,ry⟩:=jF st.e hy;simp only[aC]at rx ry;subst ry;have key:∃z:PE,(z=true->l=[])/\yR T nc tv x.s o.op=some (.bool z,x.s):=by rw[ho];rcases rx with⟨hl,rfl |⟨r,rfl⟩⟩|⟨i,off,c,rfl,_⟩;exact⟨true,fun _=>hl,by simp[yR,jN,ex,ey,sF,M3,FJ,hd]⟩;exact⟨false,by simp,by simp[yR,jN,ex,ey,sF,M3,FJ,hd]⟩;exact⟨false,by simp,by simp[yR,jN,ex,ey,sF,M3,FJ,hd]⟩
 obtain⟨z,hz,sM⟩:=key;refine SY hT (T1 P) st.fits st.act o sM fun aL w₁ cv aS iP=>?_;exact hn z x (BX tv o.dst (.bool z)) aL w₁ _ hz rfl ⟨st.h,st.fr,KV st.e (by simp[aC]) _,aS.fits,(st.act.ext aS.agree aS.nx).put iP o.dst⟩ aS (Ke.refl _ _) (zF _) (HC _ _ _)
omit hT in
def St.skip(st:St F x tm tv m w a)(d:V Tmp):St F x (eH tm d (.tup [])) (BX tv d undef) m w (a.put d undef):=
 ⟨st.h,st.fr,KV st.e (by simp only[aC];exact⟨[],rfl,by simp[c9],rfl⟩) _,st.fits,st.act.put (NO fun _=>by simp[undef,ren,aJ]) d⟩
end
def c8(aA:X Oper)(tm:X U)(o:Oper):V PE :=
 match o.guard with
 |none=>some true|some (j,want)=>match AM aA j with
  |none=>some false|some d=>match nth tm d with
   |some (.bool b)=>some (b==want)|some (.tup _)=>some false
   |_=>none
def H9{aA:X Oper}{tv:X Value}(ht:bA x tm tv){o:Oper}{b:PE}(h:c8 aA tm o=some b):On aA tv o=b:=by
 unfold c8 at h;unfold On;rcases hg:o.guard with _|g;simp[hg]at h;simp[h];obtain⟨j,want⟩:=g;simp only[hg]at h ⊢;rcases hd:AM aA j with _|d;simp[hd]at h;simp[h];simp only[hd,kK]at h ⊢;rcases hu:tm[d]? with _|u;simp[hu]at h;obtain⟨v,h1,h2⟩:=ht.get hu;rw[h1];cases u with
 |bool c=>simp only[hu,zA]at h;simp only[aC]at h2;subst h2;simp[h]|tup l=>simp only[hu,zA]at h;simp only[aC]at h2;obtain⟨vs,rfl,_⟩:=h2;simp[h]
 |_=>simp[hu]at h
def AD(ro:V Nat):Fence:={ Fence.wide with round:=ro }
variable{ro:V Nat}
variable{n:Nat}
variable{P:DC}
variable{w:Nr}
def Er{f:FuncId}{args:Zu Value}{R:Ending->Nr->Prop}(h:Calls P f args w R):CallsIn (AD ro) n P f args w R:=(callsIn_wide (n:=n)).2 h
def Ns{row:String}{args:Zu Value}{R:Value->Nr->Prop}(h:Rows P row args w R):RowsIn (AD ro) n P row args w R:=fun c cs _=>by
 obtain⟨v,w',r,s⟩:=h c cs;exact⟨v,w',r,(stepsIn_wide (P:=P)).2 s⟩
def qzd:(AD ro).depth.isSome=true->1<=n:=fun h=>by simp[AD,Fence.wide]at h
def wH{o:Oper}{a:Act}{next:Act->Nr->Prop}{Q:Exit->Act->Nr->Prop}(ho:∀c,o.op≠.defer c)(h:o.wp P a w next Q):o.wpIn (AD ro) n P a w next Q:=by refine⟨fun _ _=>trivial,?_⟩;have e:o.semAt (AD ro).round a.eval=execOp a.eval o:=Oper.semAt_eq _ _ _ ho;rw[e];revert h;unfold Oper.wp;generalize (execOp a.eval o).run P w=r;intro h;unfold Oper.upon at h;split at h;exact h;exact h;exact h;exact⟨qzd,Er h⟩;exact⟨qzd,Ns h⟩;exact h;exact h.elim
def RG{T:Tb}{Y:Sg}{op:Op}{r:U×Sg}(h:bI T Y tm op=some r):∀c,op≠.defer c:=by rintro c rfl;simp[bI,i4,qX,qU]at h
def jp{T:Tb}{op:Op}{r:FuncId×X U}(h:jO T tm op=some r):∀c,op≠.defer c:=by rintro c rfl;simp[jO]at h
structure PG where
 prog:DC
 nb:Nat
 G:Cx->Nm->Nr->Prop
 ro:V Nat->Prop
 mks:PE
 st:∀{x y:Cx}{m m':Nm}{w w':Nr},G x m w->gD m x.s w->bT m x.s w m' y.s w'->Ke nb x y->G y m' w'
abbrev PG.of(P:DC):PG:=⟨P,0,fun _ _ _=>True,fun _=>True,false,fun _ _ _ _=>trivial⟩
structure VU(C:PG)(n0:Nat)(x:Cx)(m:Nm)(w:Nr):Prop where
 nb:C.nb<=n0
 g:C.G x m w
variable{m:Nm}
variable{m':Nm}
variable{w':Nr}
def VU.adv{C:PG}{n0:Nat}{y:Cx}(h:VU C n0 x m w)(hf:gD m x.s w)(ha:bT m x.s w m' y.s w')(hk:Ke n0 x y):VU C n0 y m' w':=⟨h.nb,C.st h.g hf ha (hk.le h.nb)⟩
def zj(b0:Nat)(w:Nr)(ds:X Deferred):Prop:=b0<=w.heap.size/\∃bs:X Nat,bs.Nodup/\ds=bs.map (fun b=>{ target:=.collected b,args:=#[] })/\∀b∈bs,b0<=b/\w.heap[b]? = some (.deferred (some []))
variable{s:S}
def z5l(hf:gD m s w){b:Nat}{o:Obj}(h:w.heap[b]? = some o)(ho:∀c e f,o≠.cells c e f)(Vs:∀q c,o≠.map q c):¬ QB m s b:=by
 rintro⟨i,c,h1,h2,rfl⟩;have:=hf.fits.ok i c h1;rcases c with⟨l,e,md⟩|⟨es,cl⟩;simp only[v8]at this
 match md,this with
 |0,hr=>simp only[yH]at hr;rw[hr.2]at h;exact ho _ _ _ (Option.some.inj h).symm|1,hr=>simp[Own]at h2
 |n+2,hr=>simp only[yH]at hr;obtain⟨_,_,hr,_⟩:=hr;rw[hr]at h;exact ho _ _ _ (Option.some.inj h).symm
 simp only[v8]at this;rw[this]at h;exact Vs _ _ (Option.some.inj h).symm
def z9v{s':S}(hf:gD m s w)(ha:bT m s w m' s' w'){b:Nat}{o:Obj}(h:w.heap[b]? = some o)(ho:∀c e f,o≠.cells c e f)(Vs:∀q c,o≠.map q c):w'.heap[b]? = some o:=by rw[ha.same b (Array.getElem?_eq_some_iff.1 h).1 (z5l hf h ho Vs)];exact h
def zj.adv{b0:Nat}{s':S}{ds:X Deferred}(h:zj b0 w ds)(hf:gD m s w)(ha:bT m s w m' s' w'):zj b0 w' ds:=by obtain⟨h0,bs,h1,h2,h3⟩:=h;exact⟨Nat.le_trans h0 ha.size,bs,h1,h2,fun b hb=>⟨(h3 b hb).1,z9v hf ha (h3 b hb).2 qq4 qq4⟩⟩
structure DR(C:PG)(b0:Nat)(ds:X Deferred)(w':Nr)(ds':X Deferred):Prop where
 eq:C.mks=false->ds'=ds
 ok:C.mks=true->zj b0 w' ds'
def DR.trans{C:PG}{b0:Nat}{ds JG ds2:X Deferred}{w1 w2:Nr}(h:DR C b0 ds w1 JG)(g:DR C b0 JG w2 ds2):DR C b0 ds w2 ds2:=⟨fun hk=>(g.eq hk).trans (h.eq hk),g.ok⟩
def DR.here{C:PG}{b0:Nat}{ds JG:X Deferred}{w1:Nr}(h:DR C b0 ds w1 JG):DR C b0 JG w1 JG:=⟨fun _=>rfl,h.ok⟩
def DR.adv{C:PG}{b0:Nat}{ds JG:X Deferred}{m:Nm}{s:S}{w:Nr}{m':Nm}{s':S}{w':Nr}(h:DR C b0 ds w JG)(hf:gD m s w)(ha:bT m s w m' s' w'):DR C b0 ds w' JG:=⟨h.eq,fun hk=>(h.ok hk).adv hf ha⟩
def fN(C:PG)(Y:Sg)(tm:X U)(o:Oper)(R:U->Sg->Prop):Prop :=
 ∀(F:Nat->mI->Prop)(x:Cx)(tv:X Value)(m:Nm)(w:Nr)(a:Act)(next:Act->Nr->Prop)(Q:Exit->Act->Nr->Prop),x.Y=Y->St F x tm tv m w a->VU C x.Y.nx x m w-> (∀u y dJ aL w₁ bD,R u y.Y->St F y (eH tm o.dst u) dJ aL w₁ bD->bT m x.s w aL y.s w₁->Ke x.Y.nx x y->x.Y.nx<=y.Y.nx->bD.defers=a.defers->next bD w₁)->∀ro,C.ro ro->o.wpIn (AD ro) 0 C.prog a w next Q
def RU(C:PG)(T:Tb)(aA:X Oper):X Oper->X U->Sg->(X U->Sg->Prop)->Prop
 |[],tm,Y,K=>K tm Y|o::r,tm,Y,K=>(c8 aA tm o=some true/\∃u Y',bI T Y tm o.op=some (u,Y')/\RU C T aA r (eH tm o.dst u) Y' K)\/ (c8 aA tm o=some true/\∃f args R,jO T tm o.op=some (f,args)/\aW C.prog f args Y R/\∀u Y',R u Y'->RU C T aA r (eH tm o.dst u) Y' K)\/ (c8 aA tm o=some false/\RU C T aA r (eH tm o.dst (.tup [])) Y K)\/ (c8 aA tm o=some true/\∃t xo yo ty e b l,o.op=.binOp .eql t xo yo ty/\T.und t=some (.slice e)/\cG tm xo=some (.isl b l)/\cG tm yo=some .nils/\∀z:PE,(z=true->l=[])->RU C T aA r (eH tm o.dst (.bool z)) Y K)\/ (c8 aA tm o=some true/\∃R,fN C Y tm o R/\∀u Y',R u Y'->RU C T aA r (eH tm o.dst u) Y' K)
def F'(C:PG)(n0:Nat)(F:Nat->mI->Prop)(x:Cx)(m:Nm)(w:Nr)(ds:X Deferred)(b0:Nat)(Q:Exit->X U->Sg->Prop):Exit->Act->Nr->Prop:=fun e a' w'=>
 ∃y tm' dJ m',Q e tm' y.Y/\St F y tm' dJ m' w' a'/\bT m x.s w m' y.s w'/\Ke n0 x y/\n0<=y.Y.nx/\DR C b0 ds w' a'.defers
def WPU(C:PG)(n0:Nat)(c:Code)(tm:X U)(Y:Sg)(Q:Exit->X U->Sg->Prop):Prop :=
 n0<=Y.nx->∀F x tv m w a b0,x.Y=Y->St F x tm tv m w a->VU C n0 x m w->DR C b0 a.defers w a.defers->∀ro,C.ro ro->c.wpIn (AD ro) 0 C.prog (F' C n0 F x m w a.defers b0 Q) a w
section
variable{C:PG}{n0:Nat}{Q:Exit->X U->Sg->Prop}{tm:X U}{Y:Sg}
def yF(K:X U->Sg->Prop)(Q:Exit->X U->Sg->Prop):Exit->X U->Sg->Prop
 |.normal,tm,s=>K tm s|e,tm,s=>Q e tm s
def WPU.seq{p q:Code}(h:WPU C n0 p tm Y (yF (fun tm Y=>WPU C n0 q tm Y Q) Q)):WPU C n0 (.seq p q) tm Y Q:=fun hn F x tv m w a b0 hx st hG hd ro eZ=>by
 refine wpIn_seq (wpIn_mono (h hn F x tv m w a b0 hx st hG hd ro eZ) ?_);rintro e a' w' ⟨y,tm',dJ,m',h1,h2,h3,h4,h5,h6⟩;cases e with
 |normal=>refine wpIn_mono (h1 h5 F y dJ m' w' a' b0 rfl h2 (hG.adv st.fits h3 h4) h6.here ro eZ) ?_;rintro e a'' w'' ⟨z,eV,tv'',m'',g1,g2,g3,g4,g5,g6⟩;exact⟨z,eV,tv'',m'',g1,g2,h3.trans g3,h4.trans g4,g5,h6.trans g6⟩
 |_=>exact⟨y,tm',dJ,m',h1,h2,h3,h4,h5,h6⟩
def WPU.skip(h:Q .normal tm Y):WPU C n0 .skip tm Y Q:=fun hn F x tv m w a b0 hx st hG hd ro eZ=>wpIn_skip ⟨x,tm,tv,m,hx ▸ h,st,bT.refl st.fits,Ke.refl _ _,hx ▸ hn,hd⟩
def WPU.ret(h:Q .ret tm Y):WPU C n0 .ret tm Y Q:=fun hn F x tv m w a b0 hx st hG hd ro eZ=>wpIn_ret ⟨x,tm,tv,m,hx ▸ h,st,bT.refl st.fits,Ke.refl _ _,hx ▸ hn,hd⟩
def WPU.exit{id:Nat}(h:Q (.exit id) tm Y):WPU C n0 (.exit id) tm Y Q:=fun hn F x tv m w a b0 hx st hG hd ro eZ=>wpIn_exit ⟨x,tm,tv,m,hx ▸ h,st,bT.refl st.fits,Ke.refl _ _,hx ▸ hn,hd⟩
def WPU.cond{c:Xt}{p q:Code}{t:PE}(hc:cG tm c=some (.bool t))(h1:t=true->WPU C n0 p tm Y Q)(h2:t=false->WPU C n0 q tm Y Q):WPU C n0 (.cond c p q) tm Y Q:=fun hn F x tv m w a b0 hx st hG hd ro eZ=>by
 obtain⟨v,e1,e2⟩:=jF st.e hc;simp only[aC]at e2;subst e2;have he:=(st.act.evalO e1).at;simp only[ren]at he;rcases t with _|_;exact wpIn_cond_false he.symm (h2 rfl hn F x tv m w a b0 hx st hG hd ro eZ);exact wpIn_cond_true he.symm (h1 rfl hn F x tv m w a b0 hx st hG hd ro eZ)
def uD(id:Nat)(Q:Exit->X U->Sg->Prop):Exit->X U->Sg->Prop
 |.exit id',tm,s=>if id'=id then Q .normal tm s else Q (.exit id') tm s|e,tm,s=>Q e tm s
def cE{id:Nat}{c:Code}(h:WPU C n0 c tm Y (uD id Q)):WPU C n0 (.block id c) tm Y Q:=fun hn F x tv m w a b0 hx st hG hd ro eZ=>by
 refine wpIn_block (wpIn_mono (h hn F x tv m w a b0 hx st hG hd ro eZ) ?_);rintro e a' w' ⟨y,tm',dJ,m',h1,h2⟩;cases e with
 |exit id'=>simp only[Exit.inBlock];simp only[uD]at h1;by_cases jX:id'=id;simp only[jX,if_true]at h1 ⊢;exact⟨y,tm',dJ,m',h1,h2⟩;simp only[jX,if_false]at h1 ⊢;exact⟨y,tm',dJ,m',h1,h2⟩|_=>exact⟨y,tm',dJ,m',h1,h2⟩
def WPU.loop{c:Code}(v09:Nat->X U->Sg->Prop)(n:Nat)(h₀:v09 n tm Y)(round:∀n tm Y,v09 n tm Y->WPU C n0 c tm Y (yF (fun tm' Y'=>∃n',n'<n/\v09 n' tm' Y') Q)):WPU C n0 (.loop c) tm Y Q:=by
 intro hn F x tv m w a b0 hx st hG hd ro eZ b k cs hbr hb hr;have key:∀n tm Y,v09 n tm Y->n0<=Y.nx->∀x tv m w a,x.Y=Y->St F x tm tv m w a->VU C n0 x m w->DR C b0 a.defers w a.defers->∃e a' w',F' C n0 F x m w a.defers b0 Q e a' w'/\ArrivesIn (Machine.fenced C.prog (AD ro)) C.prog (lone (b.atR a (.code c :: .inLoop c::k)) cs w) b k cs e a' w':=by
  intro n;induction n using Nat.strongRecOn with
  |_ n ih=>
   intro tm Y hI hn x tv m w a hx st hG hd;obtain⟨e,bD,w₁,⟨y,tJ,tI,aL,hq,dC,aS,iH,iR,m8⟩,xL⟩:=round n tm Y hI hn F x tv m w a b0 hx st hG hd ro eZ b (.inLoop c::k) cs hbr hb hr;cases e with
   |normal=>obtain⟨n',aE,hI'⟩:=hq;obtain⟨e₂,a₂,vX,⟨z,Ni,Nh,DX,Vl,Bk,PI,Ch,Bw,Cw⟩,PD⟩:=ih n' aE tJ y.Y hI' iR y tI aL w₁ bD rfl dC (hG.adv st.fits aS iH) m8.here;exact⟨e₂,a₂,vX,⟨z,Ni,Nh,DX,Vl,Bk,aS.trans PI,iH.trans Ch,Bw,m8.trans Cw⟩,.of_steps (StepsIn.trans xL (.one (fenced_calm hb hr rfl) stepR_inLoop)) PD⟩
   |exit id=>exact⟨_,bD,w₁,⟨y,tJ,tI,aL,hq,dC,aS,iH,iR,m8⟩,.pass (x:=.inLoop c) rfl (fun _ _=>.inl qq4) xL⟩|goto l=>exact⟨_,bD,w₁,⟨y,tJ,tI,aL,hq,dC,aS,iH,iR,m8⟩,.pass (x:=.inLoop c) rfl (fun _ _=>.inl qq4) xL⟩
   |ret=>exact⟨_,bD,w₁,⟨y,tJ,tI,aL,hq,dC,aS,iH,iR,m8⟩,.pass (x:=.inLoop c) rfl (fun _ _=>.inl qq4) xL⟩|panic ch=>exact⟨_,bD,w₁,⟨y,tJ,tI,aL,hq,dC,aS,iH,iR,m8⟩,.pass (x:=.inLoop c) rfl (fun _ _=>.inl qq4) xL⟩
   |outgrown=>exact⟨_,bD,w₁,⟨y,tJ,tI,aL,hq,dC,aS,iH,iR,m8⟩,.pass (x:=.inLoop c) rfl (fun _ _=>.inl qq4) xL⟩
 obtain⟨e,a',w',hq,xL⟩:=key n tm Y h₀ hn x tv m w a hx st hG hd;exact⟨e,a',w',hq,.of_steps (.one (fenced_calm hb hr rfl) stepR_loop) xL⟩
def Gh(n0:Nat)(tm:X U)(Y:Sg)(tm':X U)(Y':Sg):Prop :=
 ∀F x tv,x.Y=Y->iZ x->Fr F x->bA x tm tv->∃y,(∀m w,gD m x.s w->bT m x.s w m y.s w)/\y.Y=Y'/\iZ y/\Fr F y/\bA y tm' tv/\Ke n0 x y
def Gh.refl(n0:Nat)(tm:X U)(Y:Sg):Gh n0 tm Y tm Y:=fun F x tv hx h hf he=>⟨x,fun m w hf=>bT.refl hf,hx,h,hf,he,Ke.refl _ _⟩
def Gh.trans{tm' eV:X U}{Y' aU:Sg}(h:Gh n0 tm Y tm' Y')(h':Gh n0 tm' Y' eV aU):Gh n0 tm Y eV aU:=fun F x tv hx hh hf he=>by
 obtain⟨y,h1,h2,h3,h4,h5,h6⟩:=h F x tv hx hh hf he;obtain⟨z,g1,g2,g3,g4,g5,g6⟩:=h' F y tv h2 h3 h4 h5;exact⟨z,fun m w hf=>(h1 m w hf).trans (g1 m w (h1 m w hf).fits),g2,g3,g4,g5,h6.trans g6⟩
def dF{c:Code}{tm':X U}{Y':Sg}(h:Gh n0 tm Y tm' Y')(CN:n0<=Y'.nx)(hw:WPU C n0 c tm' Y' Q):WPU C n0 c tm Y Q:=fun hn F x tv m w a b0 hx st hG hd ro eZ=>by
 obtain⟨y,h1,h2,h3,h4,h5,h6⟩:=h F x tv hx st.h st.fr st.e;have aS:=h1 m w st.fits;refine wpIn_mono (hw CN F y tv m w a b0 h2 ⟨h3,h4,h5,aS.fits,st.act.ext aS.agree aS.nx⟩ (hG.adv st.fits aS h6) hd ro eZ) ?_;rintro e a' w' ⟨z,eV,tv'',m'',g1,g2,g3,g4,g5,g6⟩;exact⟨z,eV,tv'',m'',g1,g2,aS.trans g3,h6.trans g4,g5,g6⟩
def WPU.after{c:Code}{Q':Exit->X U->Sg->Prop}(h:WPU C n0 c tm Y Q')(hq:∀e tm Y,n0<=Y.nx->Q' e tm Y->∃tm' Y',n0<=Y'.nx/\Gh n0 tm Y tm' Y'/\Q e tm' Y'):WPU C n0 c tm Y Q:=fun hn F x tv m w a b0 hx st hG hd ro eZ=>by
 refine wpIn_mono (h hn F x tv m w a b0 hx st hG hd ro eZ) ?_;rintro e a' w' ⟨y,tm',dJ,m',h1,h2,h3,h4,h5,h6⟩;obtain⟨eV,aU,q1,q2,q3⟩:=hq e tm' y.Y h5 h1;obtain⟨z,g1,g2,g3,g4,g5,g6⟩:=q2 F y dJ rfl h2.h h2.fr h2.e;have aS:=g1 m' w' h2.fits;exact⟨z,eV,dJ,m',g2 ▸ q3,⟨g3,g4,g5,aS.fits,h2.act.ext aS.agree aS.nx⟩,h3.trans aS,h4.trans g6,g2 ▸ q1,h6⟩
variable{T:Tb}(hT:j0 C.prog T)
include hT
def Fw(aA:Zu Oper)(E:Exit->Act->Nr->Prop){F:Nat->mI->Prop}{x0:Cx}{m0:Nm}{w0:Nr}{df:X Deferred}(K:X U->Sg->Prop)(LZ:VU C n0 x0 m0 w0)(hf0:gD m0 x0.s w0)(ro:V Nat)(eZ:C.ro ro):
  ∀(rest:X Oper)(i:Nat),aA.toList.drop i=rest->∀(x:Cx)(tm:X U)(tv:X Value)(m:Nm)(w:Nr)(a:Act),St F x tm tv m w a->a.defers=df->bT m0 x0.s w0 m x.s w->Ke n0 x0 x->n0<=x.Y.nx->RU C T aA.toList rest tm x.Y K-> (∀y tm' dJ m' w' a',K tm' y.Y->St F y tm' dJ m' w' a'->bT m0 x0.s w0 m' y.s w'->Ke n0 x0 y->n0<=y.Y.nx->a'.defers=df->E .normal a' w')->wpOpsIn (AD ro) 0 C.prog aA E (List.range' i rest.length) a w
 |[],i,_,x,tm,tv,m,w,a,st,hd,aS,iH,hn,h,hQ=>by simp only[zS,List.range'_zero,wpOpsIn];exact hQ x tm tv m w a h st aS iH hn hd
 |o::rest,i,vP,x,tm,tv,m,w,a,st,hd,aS,iH,hn,h,hQ=>by
  have ho:aA[i]? = some o:=by have:=congrArg (fun l=>l[0]?) vP;simpa using this
  have bH:aA.toList.drop (i+1)=rest:=by have:=congrArg List.tail vP;simpa using this
  simp only[zO,List.range'_succ,wpOpsIn,ho,I_ (st.act m (aN.refl _ _)) aA o];simp only[RU]at h;rcases h with⟨hw,u,Y',h1,h2⟩|⟨hw,f,args,R,h1,h2,h3⟩|⟨hw,h1⟩|⟨hw,t,xo,yo,ty,e,b,l,h1,h2,h3,h4,h5⟩|⟨hw,R,h1,h2⟩;rw[H9 st.e hw];simp only[if_true];refine wH (RG h1) (st.op hT o h1 fun y dJ aL w₁ bD e1 bJ cX eS iR m8=>?_);exact Fw aA E K LZ hf0 ro eZ rest (i+1) bH y _ dJ aL w₁ bD bJ (m8.trans hd) (aS.trans cX) (iH.trans (eS.le hn)) qq0 (e1 ▸ h2) hQ;rw[H9 st.e hw];simp only[if_true];refine wH (jp h1) (st.call hT o h1 h2 fun y u dJ aL w₁ bD hR bJ cX eS iR m8=>?_);exact Fw aA E K LZ hf0 ro eZ rest (i+1) bH y _ dJ aL w₁ bD bJ (m8.trans hd) (aS.trans cX) (iH.trans (eS.le hn)) qq0 (h3 u y.Y hR) hQ;rw[H9 st.e hw];simp only[Bool.false_eq_true,if_false];exact⟨fun _ _=>trivial,Fw aA E K LZ hf0 ro eZ rest (i+1) bH x _ _ m w _ (st.skip o.dst) ((HC _ _ _).trans hd) aS iH hn h1 hQ⟩;rw[H9 st.e hw];simp only[if_true];refine wH (by rw[h1];intro c hc;cases hc) (st.nilq hT o h1 h2 h3 h4 fun z y dJ aL w₁ bD hz e1 bJ cX eS iR m8=>?_);exact Fw aA E K LZ hf0 ro eZ rest (i+1) bH y _ dJ aL w₁ bD bJ (m8.trans hd) (aS.trans cX) (iH.trans (eS.le hn)) qq0 (e1 ▸ h5 z hz) hQ;rw[H9 st.e hw];simp only[if_true];refine h1 F x tv m w a _ _ rfl st ⟨Nat.le_trans LZ.nb hn,(LZ.adv hf0 aS iH).g⟩ (fun u y dJ aL w₁ bD hR bJ cX eS iR m8=>?_) ro eZ;exact Fw aA E K LZ hf0 ro eZ rest (i+1) bH y _ dJ aL w₁ bD bJ (m8.trans hd) (aS.trans cX) (iH.trans (eS.le hn)) qq0 (h2 u y.Y hR) hQ
def WPU.region{id:Nat}{aA:Zu Oper}(h:RU C T aA.toList aA.toList tm Y (fun tm' Y'=>Q .normal tm' Y')):WPU C n0 (.region id aA false) tm Y Q:=fun hn F x tv m w a b0 hx st hG hd ro eZ=>by
 subst hx;refine wpIn_region ?_;have:=Fw hT aA (F' C n0 F x m w a.defers b0 Q) (F:=F) (x0:=x) (m0:=m) (w0:=w) (df:=a.defers) (fun tm' Y'=>Q .normal tm' Y') hG st.fits ro eZ aA.toList 0 qq4 x tm tv m w a st rfl (bT.refl st.fits) (Ke.refl _ _) hn h
  (fun y tm' dJ m' w' a' h1 h2 h3 h4 h5 h6=>⟨y,tm',dJ,m',h1,h2,h3,h4,h5,by rw[h6];exact hd.adv st.fits h3⟩)
 rw[List.range_eq_range'];simpa using this
end
def kZ(T:Tb)(Y:Sg)(tm:X U):X ResultVar->V (X U)
 |[]=>some []|.tmp t::r=>match nth tm t with
  |some v=>(match kZ T Y tm r with
   |some l=>some (v::l)|none=>none)
  |none=>none
 |.cell a t::r=>match qX T Y tm (.load t (.tmp a))with
  |some v=>(match kZ T Y tm r with
   |some l=>some (v::l)|none=>none)
  |none=>none
def m5:X U->U
 |[v]=>v|l=>.tup l
def iz{T:Tb}{x:Cx}(hx:iZ x){tm:X U}{tv:X Value}(ht:bA x tm tv):∀{rs:X ResultVar}{us:X U},kZ T x.Y tm rs=some us->∃vs,EY T tv x.s rs=some vs/\bA x us vs
 |[],us,h=>by simp only[kZ,zA]at h;subst h;exact⟨[],rfl,bA.nil x⟩
 |.tmp t::rs,us,h=>by simp only[kZ,kK]at h;rcases h1:tm[t]? with _|u;simp[h1]at h;rcases h2:kZ T x.Y tm rs with _|l;simp[h1,h2]at h;simp only[h1,h2,zA]at h;subst h;obtain⟨v,e1,e2⟩:=ht.get h1;obtain⟨vs,e3,e4⟩:=iz hx ht h2;exact⟨v::vs,by simp[EY,kK,e1,e3],bA.cons e2 e4⟩
 |.cell a t::rs,us,h=>by
  simp only[kZ]at h;rcases h1:qX T x.Y tm (.load t (.tmp a))with _|u;simp[h1]at h;rcases h2:kZ T x.Y tm rs with _|l;simp[h1,h2]at h;simp only[h1,h2,zA]at h;subst h;obtain⟨v,y,e1,e2,e3,e4⟩:=qwb hx ht h1;obtain⟨vs,e5,e6⟩:=iz hx ht h2;have hp:jN T tv (.load t (.tmp a))=none:=rfl;have he:AE T tv x.s (.load t (.tmp a))=none:=rfl;have hc:callOf T tv (.load t (.tmp a))=none:=rfl;unfold yR at e1;simp only[hp,he,hc]at e1;rcases I9:v6 T tv x.s (.load t (.tmp a))with _|v';simp[I9]at e1;simp only[I9,zA,zB]at e1;obtain⟨rfl,hs⟩:=e1;refine⟨v'::vs,by simp[EY,I9,e5],bA.cons ?_ e6⟩;have fD:Mo y.Y.nx y x:=by refine⟨fun k hk rN=>?_,fun i row e hl=>by rw[hs];exact hl⟩;rw[e2]at rN ⊢;refine⟨rN,fun b hb=>⟨b,hb,zF _,fun _=>⟨?_,fun l e sz st h=>⟨l,h⟩⟩⟩⟩;have:=(e4.mo.ref k (by rw[<-e2];exact hk) rN).2 b (by rw[e2];exact hb);obtain⟨b',q1,q2,q3⟩:=this;rw[hb]at q1;cases q1;exact(q3 rfl).1.symm
  exact fD.ke u _ (aC.bel _ _ e3) e3
def z9x{us:X U}{vs:X Value}(h:bA x us vs):aC x (m5 us) (F3 vs):=by
 match us,vs,h with
 |[],vs,h=>rw[h.nil_inv];simp only[m5,F3,aC];exact⟨[],rfl,by simp[c9],rfl⟩|[u],vs,h=>obtain⟨v,sS,rfl,h1,h2⟩:=h.inv;rw[h2.nil_inv];exact h1
 |u::u'::us,vs,h=>obtain⟨v,sS,rfl,h1,h2⟩:=h.inv;obtain⟨v',vs'',rfl,h3,h4⟩:=h2.inv;simp only[m5,F3,aC];exact⟨_,rfl,h.1,h.2⟩
def F1:Nat->X U->X U
 |0,l=>l|n+1,[]=>.tup []::F1 n []
 |n+1,v::l=>v::F1 n l
def nz{x:Cx}:∀(n:Nat){us:X U}{vs:X Value},bA x us vs->bA x (F1 n us) (pad n vs)
 |0,us,vs,h=>h|n+1,[],vs,h=>by rw[h.nil_inv];exact bA.cons (by simp only[aC];exact⟨[],rfl,by simp[c9],rfl⟩) (nz n (bA.nil x))
 |n+1,u::us,vs,h=>by obtain⟨v,sS,rfl,h1,h2⟩:=h.inv;exact bA.cons h1 (nz n h2)
section
variable{P:DC}{T:Tb}(hT:j0 P T)
include hT
def Fl{f:FuncId}{fn:Func}{c:Code}{args:X U}{Y:Sg}{R:U->Sg->Prop}(hf:T.fn f=some fn)(hb:fn.body=some c)
  (h:WPU (PG.of P) Y.nx c (F1 fn.ntmps args) Y fun e tm' Y'=>(e=.normal\/e=.ret)/\∃l,kZ T Y' tm' fn.results.toList=some l/\∃u' aU,Y.nx<=aU.nx/\Gh Y.nx [m5 l] Y' [u'] aU/\R u' aU):aW P f args Y R:=fun F x vs m w cargs hx hh fG he dV cC=>by
 obtain⟨hf0,_⟩:=hT.fn f fn hf;have iS:cargs.length=vs.length:=by rw[<-cC.at];simp
 refine calls_of_wp hf0 hb ?_;have hact:AF m x.s.nx (pad fn.ntmps vs) { tmps:=cargs.toArray++Array.replicate (fn.ntmps-cargs.toArray.size) undef,defers:=[] }:=fun m' jR=>by simp only[ZO,L7,cC m' jR,iS,List.size_toArray];apply Array.ext';simp[mD,ren,undef]
 refine wp_mono ((wpIn_wide (n:=0)).1 (h (zF _) F x _ m w _ 0 hx ⟨hh,fG,nz _ he,dV,hact⟩ ⟨Nat.zero_le _,trivial⟩ ⟨fun _=>rfl,fun h=>by cases h⟩ none trivial)) ?_;rintro e a' w' ⟨y,tm',dJ,m',⟨rP,l,EA,u',aU,iR,Cn,hR⟩,bJ,aS,iH,hn,hdf0⟩;have m8:a'.defers=[]:=hdf0.eq rfl;obtain⟨ls,Vk,vM⟩:=iz bJ.h bJ.e EA;have dG:∀m'',aN y.s.nx m' m''->(results fn a'.tmps).run P w'=.ok (ren m'' (F3 ls)) w':=fun m'' OR=>by rw[bJ.act m'' OR];exact qxz hT (bJ.fits m'' OR) Vk
 have iP:iY m' y.s.nx (F3 ls) (ren m' (F3 ls)):=fun m'' OR=>by have e1:=dG m'' OR;rw[dG m' (aN.refl _ _)]at e1;simp at e1;exact e1.symm
 obtain⟨z,z1,z2,z3,z4,z5,z6⟩:=Cn F y [F3 ls] rfl bJ.h bJ.fr (bA.cons (z9x vM) (bA.nil y));obtain⟨v0,zl,e0,z7,_⟩:=z5.inv;cases e0;have eO:=z1 m' w' bJ.fits;have TQ:bodyPost P fn (fun e w₁=>∃y aL u v cv,e=.returned cv/\R u y.Y/\bT m x.s w aL y.s w₁/\iY aL y.s.nx v cv/\iZ y/\Fr F y/\aC y u v/\Ke x.Y.nx x y/\x.Y.nx<=y.Y.nx) .ret a' w' :=
  ⟨m8,_,dG m' (aN.refl _ _),z,m',u',F3 ls,_,rfl,z2 ▸ hR,aS.trans eO,iP.ext (aN.refl _ _) eO.nx,z3,z4,z7,hx ▸ iH.trans z6,by rw[hx,z2];exact iR⟩
 rcases rP with rfl |rfl;exact TQ;exact TQ
end
def aW.mono{P:DC}{f:FuncId}{args:X U}{Y:Sg}{R R':U->Sg->Prop}(h:aW P f args Y R)(hr:∀u Y',R u Y'->R' u Y'):aW P f args Y R':=fun F x vs m w cargs hx hh fG he dV cC=>
 (h F x vs m w cargs hx hh fG he dV cC).mono fun _ _ ⟨y,aL,u,v,cv,h1,h2,h3⟩=>⟨y,aL,u,v,cv,h1,hr _ _ h2,h3⟩
end Go.Vx
namespace Go.Vx
open Go Go.Rx
def aW.pure{P:DC}{f:FuncId}{args:X U}{R:U->Prop}(h:aW P f args ⟨[],0⟩ (fun u _=>R u/\aT 0 u))(ha:aG 0 args)(Y:Sg):aW P f args Y (fun u Y'=>R u/\Y'=Y):=fun F x vs m w cargs hx hh fG he dV cC=>by
 have h0:iZ ⟨fun _=>none,⟨[],0⟩,x.s⟩:=⟨fun k b hb=>by simp[gt]at hb,fun k k' b b' i hb=>by simp[gt]at hb,hh.bd⟩;have Vv:Mo 0 x ⟨fun _=>none,⟨[],0⟩,x.s⟩:=⟨fun k hk=>qq0,fun _ _ _ h=>h⟩;refine(h (fun i b=>lk x.s.h i=some b) ⟨fun _=>none,⟨[],0⟩,x.s⟩ vs m w cargs rfl h0 (fun i b hb=>⟨hb,fun k c hc=>by simp[gt]at hc⟩) (Vv.ke.E ha he) dV cC).mono ?_;rintro e w₁ ⟨y,aL,u,v,cv,rfl,⟨hR,iS⟩,aS,iP,Wl,uM,yW,_,_⟩;have fD:Mo x.Y.nx x ⟨x.I,x.Y,y.s⟩:=⟨fun k _ h2=>⟨h2,fun b hb=>⟨b,hb,zF _,fun _=>⟨rfl,fun l e sz st h=>⟨l,h⟩⟩⟩⟩,fun i row e hl=>(uM i _ hl).1⟩;have hm1:Mo 0 y ⟨x.I,x.Y,y.s⟩:=⟨fun k hk=>qq0,fun _ _ _ h=>h⟩;refine⟨⟨x.I,x.Y,y.s⟩,aL,u,v,cv,rfl,⟨hR,hx⟩,aS,iP,⟨fun k b hb=>?_,hh.inj,Wl.bd⟩,fun i b hb=>?_,hm1.ke u v iS yW,fD.ke,zF _⟩;obtain⟨h1,h2⟩:=hh.ok k b hb;exact⟨h1,h2.mono fD rfl fun i c _ hl=>(uM i c hl).1⟩;obtain⟨h1,h2⟩:=fG i b hb;exact⟨(uM i b h1).1,h2⟩
def BelB(n:Nat):B->Prop
 |.row l _=>aG n l|.vec l _ _ _=>aG n l
 |.map es _=>∀e∈es,aT n e.key/\aT n e.val
def F5(n:Nat):X (Nat×B)->Prop
 |[]=>True|(_,b)::h=>BelB n b/\F5 n h
def cut(n:Nat):X (Nat×B)->X (Nat×B)
 |[]=>[]|(k,b)::h=>cond (Nat.blt k n) ((k,b)::cut n h) (cut n h)
def Y5(n:Nat)(h:X (Nat×B))(k:Nat):gt (cut n h) k=if k<n then gt h k else none:=by induction h with|nil=>simp[cut,gt]|cons p h ih=>obtain⟨j,b⟩:=p;simp only[cut];by_cases hj:j<n;rw[wG hj];simp only[zC,aP,ih];by_cases ED:j=k;subst ED;simp[hj];simp[ED];rw[RX hj];simp only[zD,aP,ih];by_cases ED:j=k;subst ED;simp[hj];simp[ED]
def z43{n:Nat}{h:X (Nat×B)}(hb:F5 n h){k:Nat}{b:B}(hg:gt h k=some b):BelB n b:=by induction h with|nil=>simp[gt]at hg|cons p h ih=>obtain⟨j,c⟩:=p;simp only[F5]at hb;simp only[aP]at hg;split at hg;cases hg;exact hb.1;exact ih hb.2 hg
def nO.monoB{n:Nat}{x y:Cx}{k:Nat}{b:B}(h:nO x k b)(hb:BelB n b)(hm:Mo n x y)(jI:y.I k=x.I k)(hl:∀i c,x.I k=some i->lk x.s.h i=some c->lk y.s.h i=some c):nO y k b:=by
 cases b with
 |row l e=>obtain⟨k1,i,l',e1,e2,e3⟩:=h;exact⟨k1,i,l',by rw[jI,e1],hl _ _ e1 e2,hm.ke.E hb e3⟩
 |vec l e sz st=>obtain⟨k1,k2,h3⟩:=h;refine⟨k1,k2,?_⟩;rcases h3 with⟨h3,h4⟩|⟨i,l',e1,e2,e3⟩;exact .inl ⟨h3,by rw[jI,h4]⟩;exact .inr ⟨i,l',by rw[jI,e1],hl _ _ e1 e2,hm.ke.E hb e3⟩
 |map es cl=>obtain⟨i,es',e1,e2,e3⟩:=h;refine⟨i,es',by rw[jI,e1],hl _ _ e1 e2,e3.1,fun j e he=>?_⟩;obtain⟨v,q1,q2,q3,q4⟩:=e3.2 j e he;have:=hb e (zX he);exact⟨v,q1,hm.ke _ _ this.1 q2,hm.ke _ _ this.2 q3,q4⟩
def GW:X PE->X U->X U
 |true::l,_::tm=>.junk::GW l tm|false::l,u::tm=>u::GW l tm
 |_,tm=>tm
def p_{x:Cx}:∀(l:X PE){tm:X U}{tv:X Value},bA x tm tv->bA x (GW l tm) tv
 |[],tm,tv,h=>by cases tm<;>exact h
 |true::l,[],tv,h=>h|false::l,[],tv,h=>h
 |true::l,u::tm,tv,h=>by obtain⟨v,vs,rfl,h1,h2⟩:=h.inv;exact bA.cons (by simp[aC]) (p_ l h2)
 |false::l,u::tm,tv,h=>by obtain⟨v,vs,rfl,h1,h2⟩:=h.inv;exact bA.cons h1 (p_ l h2)
def Gh.junk(n0:Nat)(l:X PE)(tm:X U)(Y:Sg):Gh n0 tm Y (GW l tm) Y:=fun F x tv hx h hf he=>⟨x,fun m w hf=>bT.refl hf,hx,h,hf,p_ l he,Ke.refl _ _⟩
def Gh.cut{n0 n1:Nat}{tm:X U}{Y:Sg}(h1:n0<=n1)(h2:n1<=Y.nx)(hb:aG n1 tm)(hh:F5 n1 (Vx.cut n1 Y.h)):Gh n0 tm Y tm ⟨Vx.cut n1 Y.h,n1⟩:=fun F x tv hx hr hf he=>by
 subst hx;have fD:Mo n1 x ⟨x.I,⟨Vx.cut n1 x.Y.h,n1⟩,x.s⟩:=by refine⟨fun k hk _=>⟨hk,fun b hb=>?_⟩,fun _ _ _ h=>h⟩;simp only[Y5,hk,if_true]at hb;exact⟨b,hb,zF _,fun _=>⟨rfl,fun l e sz st h=>⟨l,h⟩⟩⟩
 have sub:∀{k b},gt (Vx.cut n1 x.Y.h) k=some b->k<n1/\gt x.Y.h k=some b:=fun{k b} hg=>by simp only[Y5]at hg;split at hg;exact⟨by assumption,hg⟩;cases hg
 refine⟨⟨x.I,⟨Vx.cut n1 x.Y.h,n1⟩,x.s⟩,fun m w hf=>bT.refl hf,rfl,⟨fun k b hg=>?_,fun k k' b b' i g1 g2=>hr.inj k k' b b' i (sub g1).2 (sub g2).2,hr.bd⟩,fun i b O=>?_,fD.ke.E hb he,fD.ke.le h1⟩;exact⟨(sub hg).1,(hr.ok k b (sub hg).2).2.monoB (z43 hh hg) fD rfl fun _ _ _ h=>h⟩;exact⟨(hf i b O).1,fun k c hc=>(hf i b O).2 k c (sub hc).2⟩
def qwk{l:X Value}{i:Nat}{v:Value}(h:l[i]? = some v):l.set i v=l:=by apply List.ext_getElem?;intro j;rw[List.getElem?_set];split;rename_i e;subst e;have:=(zG.1 h).1;simp only[this,if_true];exact h.symm;rfl
def Gh.nilvec{n0:Nat}{tm:X U}{Y:Sg}(i:Nat)(e:TypeId)(sz:Nat)(eY:0<sz)(h0:n0<=Y.nx)(hi:nth tm i=some .nils):Gh n0 tm Y (tm.set i (.vl Y.nx 0 0 0)) (newU Y (.vec [] e sz 0)):=fun F x tv hx hr hf he=>by
 subst hx;have ho:=K_ hr e sz eY;rw[kK]at hi;obtain⟨v,h1,h2⟩:=he.get hi;simp only[aC]at h2;subst h2;refine⟨⟨mB x.I x.Y.nx none,newU x.Y (.vec [] e sz 0),x.s⟩,fun m w hf=>bT.refl hf,rfl,ho.h,ho.fr F hf,?_,ho.mo.ke.le h0⟩;have:=(ho.mo.ke.E he.bel he).set i (n? (x:=x) (e:=e) (sz:=sz) (o:=none) qq4)
 rwa [qwk h1]at this
def bT.freeze{m:Nm}{s:S}{w:Nr}(h:gD m s w){i:Nat}{l:X Value}{e md e1:Nat}(hl:lk s.h i=some (.inl (l,e,md)))(pD:md=0/\e1=0\/∃sz,md=sz+2/\e1=sz+1):
  bT m s w m ⟨up s.h i (.inl (l,e1,1)),s.nx⟩ w:=by
 have old:∀j c,lk (up s.h i (.inl (l,e1,1))) j=some c->∃d,lk s.h j=some d/\(Own c=true->Own d=true)/\(j≠i->c=d):=fun j c hc=>by simp only[DH]at hc;by_cases nZ:i=j;subst nZ;simp only[if_true,hl,zM,zA]at hc;subst hc;exact⟨_,hl,fun h=>by simp[Own]at h,fun h=>absurd rfl h⟩;simp only[nZ,if_false]at hc;exact⟨c,hc,id,fun _=>rfl⟩
 refine⟨aN.refl _ _,zF _,fun m' ha=>?_,?_,fun _ _ _=>rfl,zF _,rfl,rfl,rfl⟩;have hf:=h m' ha;refine⟨fun j c hc=>?_,fun j k c d hc hd ED ho=>?_,fun j c hc=>?_⟩;by_cases nZ:j=i;subst nZ;simp only[DH,if_true,hl,zM,zA]at hc;subst hc;have hr:yH m' j l e w md:=hf.ok j _ hl;rcases pD with⟨rfl,rfl⟩|⟨sz,rfl,rfl⟩;obtain⟨h0,h1⟩:=hr;exact⟨_,_,_,h1,fun k v hk=>by simp[h0,mD,hk],fun n hn=>absurd hn qq4⟩;obtain⟨pr,rest,h1,h2,h3⟩:=hr;refine⟨_,_,_,h1,fun k v hk=>?_,fun n hn=>?_⟩;have aE:k<l.length:=(zG.1 hk).1;simp only[List.getElem?_toArray,zT,<-h2];rw[List.getElem?_append_right qq0,Nat.add_sub_cancel_left,List.getElem?_append_left (by simpa using aE)];simp[mD,hk];have:n=sz:=(Nat.succ.inj hn).symm;subst this;exact Nat.le_of_add_right_le (Nat.le_of_eq h3);obtain⟨d,h1,_,h3⟩:=old j c hc;rw[h3 nZ];exact hf.ok j d h1;obtain⟨c',h1,h2,_⟩:=old j c hc;obtain⟨d',h3,_,_⟩:=old k d hd;exact hf.inj j k c' d' h1 h3 ED (h2 ho);obtain⟨d,h1,_⟩:=old j c hc;exact hf.bd j d h1;rintro b ⟨j,c,hc,ho,rfl⟩;obtain⟨d,h1,h2,_⟩:=old j c hc;exact .inl ⟨j,d,h1,h2 ho,rfl⟩
def bN(sz:Nat):Nat->X U->X (X U)
 |0,_=>[]|n+1,l=>l.take sz::bN sz n (l.drop sz)
def k?(sz n:Nat)(l:X U):(bN sz n l).length=n:=by induction n generalizing l with|zero=>rfl|succ n ih=>simp[bN,ih]
def j?{x:Cx}{sz:Nat}:∀(n:Nat){l:X U}{vs:X Value},c9 x l vs->okL l=true->n*sz<=l.length->gY x sz (bN sz n l) vs
 |0,l,vs,h,hk,hl=>by simp[bN,gY]
 |n+1,l,vs,h,hk,hl=>by rw[Nat.succ_mul]at hl;simp only[bN,gY];refine⟨by simp;omega,YH hk _,?_,j? n (h.drop sz) (FG hk _) (by simp;omega)⟩;rw[H7]at h ⊢;intro i u hu;rw[List.getElem?_take]at hu;split at hu;exact h i u hu;cases hu
mutual
def fz(K:Nat)(b:B)(sz:Nat):U->U
 |.sl k off n c=>cond (Nat.beq k K) (match b with
  |.row l _=>if off+n*sz<=l.length then .isl false (bN sz n (l.drop off))else .sl k off n c|_=>.sl k off n c) (.sl k off n c)
 |.vl k st off n=>cond (Nat.beq k K) (match b with
  |.vec l _ gM bJ=>if bJ=st/\(off+n)*gM<=l.length then .isl false (bN gM n (l.drop (off*gM)))else .vl k st off n|_=>.vl k st off n) (.vl k st off n)
 |.ptr k st off=>cond (Nat.beq k K) (match b with
  |.row l _=>if st=0 then .iptr (l.drop off)else .ptr k st off|_=>.ptr k st off) (.ptr k st off)
 |.agg l=>.agg (gU K b sz l)|.tup l=>.tup (gU K b sz l)
 |.fn f a c=>.fn f (gU K b sz a) (gU K b sz c)|u=>u
def gU(K:Nat)(b:B)(sz:Nat):X U->X U
 |[]=>[]|u::l=>fz K b sz u::gU K b sz l
end
def fzB(K:Nat)(b:B)(sz:Nat):B->B
 |.row l e=>.row (gU K b sz l) e|.vec l e s st=>.vec (gU K b sz l) e s st
 |.map es cl=>.map (es.map fun e=>{ e with val:=fz K b sz e.val }) cl
def fzH(K:Nat)(b:B)(sz:Nat):X (Nat×B)->X (Nat×B)
 |[]=>[]|(k,c)::h=>cond (Nat.beq k K) (fzH K b sz h) ((k,fzB K b sz c)::fzH K b sz h)
def AO(K:Nat)(b:B)(sz:Nat)(h:X (Nat×B))(k:Nat):gt (fzH K b sz h) k=if k=K then none else(gt h k).map (fzB K b sz):=by induction h with|nil=>simp[fzH,gt]|cons p h ih=>obtain⟨j,c⟩:=p;simp only[fzH,beq_eq];by_cases hj:j=K;subst hj;simp only[yC,zC,ih,aP];by_cases hk:k=j;simp[hk];simp[hk,Ne.symm hk];simp only[hj,yB,zD,aP,ih];by_cases hk:j=k;subst hk;simp[hj];simp[hk]
def Dj(K:Nat)(b:B)(sz:Nat)(c:B):(fzB K b sz c).st=c.st:=by cases c<;>rfl
def Dh(K:Nat)(b:B)(sz:Nat)(u:U)(h:okC u=true):okC (fz K b sz u)=true:=by
 cases u with
 |sl k off n c=>
  simp only[fz];rcases Nat.beq k K with _|_;rfl;simp only[zC];cases b with
  |row l e=>simp only;split<;>rfl|_=>rfl
 |vl k st off n=>
  simp only[fz];rcases Nat.beq k K with _|_;rfl;simp only[zC];cases b with
  |vec l e s st=>simp only;split<;>rfl|_=>rfl
 |ptr k st off=>
  simp only[fz];rcases Nat.beq k K with _|_;rfl;simp only[zC];cases b with
  |row l e=>simp only;split<;>rfl|_=>rfl
 |agg l=>simp[okC]at h|tup l=>simp[okC]at h
 |junk=>simp[okC]at h|_=>simp only[fz];first |exact h |rfl
def wv(K:Nat)(b:B)(sz:Nat):∀l:X U,okL l=true->okL (gU K b sz l)=true
 |[],_=>rfl|u::l,h=>by simp only[okL]at h;obtain⟨h1,h2⟩:=L6 h;simp[gU,okL,Dh K b sz u h1,wv K b sz l h2]
def YC(K:Nat)(b:B)(sz:Nat):∀l:X U,(gU K b sz l).length=l.length
 |[]=>rfl|u::l=>by simp[gU,YC K b sz l]
section
variable{x y:Cx}{K:Nat}{b:B}{sz:Nat}(hg:gt x.Y.h K=some b)(hb:nO x K b)(fD:Mo x.Y.nx x y)
 (eA:∀i l e md,x.I K=some i->lk x.s.h i=some (.inl (l,e,md))->(md=0/\lk y.s.h i=some (.inl (l,0,1)))\/∃s,md=s+2/\lk y.s.h i=some (.inl (l,s+1,1)))
include hg hb fD eA
mutual
def z7j:(u:U)->(v:Value)->aC x u v->aC y (fz K b sz u) v
 |.sl k off n c,v,h=>by
  have keep:=fD.ke _ _ (aC.bel _ _ h) h;simp only[fz,beq_eq];by_cases hk:k=K;subst hk;simp only[yC,zC];cases b with
  |row l e=>simp only;split;rename_i aQ;obtain⟨i,hi,rfl,hc,IH⟩:=Gy (x:=x) (by simp[live,hg,B.st]) h;obtain⟨k1,i',l',e1,e2,e3⟩:=hb;rw[hi]at e1;cases e1;have e4:c9 y l l':=(fD.ke.E e3.bel e3).1;rcases eA i l' e 0 hi e2 with⟨_,hl⟩|⟨s,hs,_⟩;simp only[aC,k?];refine .inr ⟨i,off,c,rfl,(fun ht=>by cases ht),?_⟩;by_cases hn:n=0;exact .inl (List.eq_nil_of_length_eq_zero (by rw[k?,hn]));exact .inr ⟨l',0,sz,hl,j? n (e4.drop off) (FG k1 _) (by simp;omega),.inl ⟨hc,IH⟩⟩;omega;exact keep
  |_=>exact keep
  simp only[hk,yB,zD];exact keep
 |.vl k st off n,v,h=>by
  have keep:=fD.ke _ _ (aC.bel _ _ h) h;simp only[fz,beq_eq];by_cases hk:k=K;subst hk;simp only[yC,zC];cases b with
  |vec l e gM bJ=>
   simp only;split;rename_i aQ;obtain⟨rfl,aQ⟩:=aQ;obtain⟨l0,e0,s0,g1,g2⟩:=Gx (x:=x) (by simp[live,hg,B.st]) h;have:=hg.symm.trans g1;cases this;obtain⟨k1,k2,h3⟩:=hb;rcases h3 with⟨rfl,h4⟩|⟨i,l',e1,e2,e3⟩;rw[h4]at g2;obtain⟨rfl,rfl,o,rfl,ho⟩:=g2;simp only[aC,bN];rcases o with _|a;exact .inl ⟨trivial,.inl rfl⟩;exact .inr ⟨a.block,a.off,0,by obtain⟨q1,q2,q3⟩:=a;have:=ho _ rfl;simp only at this;subst this;rfl,by simp,.inl trivial⟩;rw[e1]at g2;have e4:c9 y l l':=(fD.ke.E e3.bel e3).1;rcases eA i l' e _ e1 e2 with⟨h0,_⟩|⟨s,hs,hl⟩;omega;have:s=gM:=by omega
   subst this;simp only[aC,k?];rcases g2 with⟨_,rfl,a,c,rfl,ha⟩|rfl;exact .inr ⟨a.block,a.off,c,by obtain⟨q1,q2,q3⟩:=a;simp only at ha;subst ha;rfl,by simp,.inl rfl⟩;refine .inr ⟨i,off*s,cV+off,rfl,by simp,?_⟩;rw[Nat.add_mul]at aQ;exact .inr ⟨l',s+1,s,hl,j? n (e4.drop _) (FG k1 _) (by simp;omega),.inr ⟨by omega,rfl,k2,by simp[cT],by rw[<-e3.2];exact aQ⟩⟩;exact keep
  |_=>exact keep
  simp only[hk,yB,zD];exact keep
 |.ptr k st off,v,h=>by
  have keep:=fD.ke _ _ (aC.bel _ _ h) h;simp only[fz,beq_eq];by_cases hk:k=K;subst hk;simp only[yC,zC];cases b with
  |row l e=>simp only;split;rename_i dC;subst dC;obtain⟨i,hi,rfl⟩:=YI (x:=x) (by simp[live,hg,B.st]) h;obtain⟨k1,i',l',e1,e2,e3⟩:=hb;rw[hi]at e1;cases e1;have e4:c9 y l l':=(fD.ke.E e3.bel e3).1;rcases eA i l' e 0 hi e2 with⟨_,hl⟩|⟨s,hs,_⟩;simp only[aC];exact⟨i,off,l',0,rfl,hl,e4.drop off,FG k1 _⟩;omega;exact keep
  |_=>exact keep
  simp only[hk,yB,zD];exact keep
 |.agg l,v,h=>by simp only[aC,fz]at*;obtain⟨vs,rfl,h1,h2,h3⟩:=h;exact⟨vs,rfl,Ha l vs h1,by rw[YC];exact h2,wv K b sz l h3⟩
 |.tup l,v,h=>by simp only[aC,fz]at*;obtain⟨vs,rfl,h1,h2⟩:=h;exact⟨vs,rfl,Ha l vs h1,by rw[YC];exact h2⟩
 |.fn f p q,v,h=>by simp only[aC,fz]at*;obtain⟨va,vb,rfl,h1,h2,h3,h4⟩:=h;exact⟨va,vb,rfl,Ha p va h1,by rw[YC];exact h2,Ha q vb h3,by rw[YC];exact h4⟩
 |.junk,v,h=>by simp[fz,aC]
 |.bool _,v,h=>by simpa[fz,aC]using h
 |.int _ _,v,h=>by simpa[fz,aC]using h
 |.str _,v,h=>by simpa[fz,aC]using h
 |.nilp,v,h=>by simpa[fz,aC]using h
 |.nils,v,h=>by simpa[fz,aC]using h
 |.nilm,v,h=>by simpa[fz,aC]using h
 |.nilf,v,h=>by simpa[fz,aC]using h
 |.nili,v,h=>by simpa[fz,aC]using h
 |.map k,v,h=>by simp only[fz];exact fD.ke _ _ (aC.bel _ _ h) h
 |.iptr l,v,h=>by simp only[fz];exact fD.ke _ _ (aC.bel _ _ h) h
 |.isl t l,v,h=>by simp only[fz];exact fD.ke _ _ (aC.bel _ _ h) h
def Ha:(l:X U)->(vs:X Value)->c9 x l vs->c9 y (gU K b sz l) vs
 |[],vs,h=>by have _:=hg;have _:=hb;have _:=fD;have _:=eA;simp[gU,c9]
 |u::l,[],h=>by simp[c9]at h
 |u::l,v::vs,h=>by simp only[c9,gU]at*;exact⟨z7j u v h.1,Ha l vs h.2⟩
end
end
def Gh.freeze{n0:Nat}{tm:X U}{Y:Sg}{K:Nat}{b:B}(sz:Nat)(hg:gt Y.h K=some b)(hb:∀es cl,b≠.map es cl):Gh n0 tm Y (gU K b sz tm) ⟨fzH K b sz Y.h,Y.nx⟩:=fun F x tv hx hr hf he=>by
 subst hx;obtain⟨hK,hB⟩:=hr.ok K b hg;have hs:∃s':S,(∀m w,gD m x.s w->bT m x.s w m s' w)/\(∀i c,lk x.s.h i=some c->x.I K≠some i->lk s'.h i=some c)/\(∀i c,lk s'.h i=some c->i<s'.nx)/\
   (∀i l e md,x.I K=some i->lk x.s.h i=some (.inl (l,e,md))->(md=0/\lk s'.h i=some (.inl (l,0,1)))\/∃s,md=s+2/\lk s'.h i=some (.inl (l,s+1,1))):=by
  have act:∀i l e md e1,x.I K=some i->lk x.s.h i=some (.inl (l,e,md))->(md=0/\e1=0\/∃sz,md=sz+2/\e1=sz+1)->∃s':S,(∀m w,gD m x.s w->bT m x.s w m s' w)/\(∀i c,lk x.s.h i=some c->x.I K≠some i->lk s'.h i=some c)/\(∀i c,lk s'.h i=some c->i<s'.nx)/\
   (∀i l e md,x.I K=some i->lk x.s.h i=some (.inl (l,e,md))->(md=0/\lk s'.h i=some (.inl (l,0,1)))\/∃s,md=s+2/\lk s'.h i=some (.inl (l,s+1,1))):=by
   intro i l e md e1 hi hl pD;refine⟨⟨up x.s.h i (.inl (l,e1,1)),x.s.nx⟩,fun m w hf=>bT.freeze hf hl pD,fun j c hc cR=>?_,fun j c hc=>?_,fun j l' e' md' hj BE=>?_⟩;have:i≠j:=fun h=>cR (by rw[hi,h]);simp[DH,this,hc];simp only[DH]at hc;split at hc;rename_i h;subst h;exact hr.bd _ _ hl;exact hr.bd j c hc;rw[hi]at hj;cases hj;rw[hl]at BE;cases BE;rcases pD with⟨rfl,rfl⟩|⟨s,rfl,rfl⟩
   exact .inl ⟨rfl,by simp[DH,hl]⟩;exact .inr ⟨s,rfl,by simp[DH,hl]⟩
  cases b with
  |map es cl=>exact absurd rfl (hb es cl)|row l e=>obtain⟨_,i,l',e1,e2,_⟩:=hB;exact act i l' e 0 0 e1 e2 (.inl ⟨rfl,rfl⟩)
  |vec l e s st=>obtain⟨_,_,h3⟩:=hB;rcases h3 with⟨_,h4⟩|⟨i,l',e1,e2,_⟩;exact⟨x.s,fun m w hf=>bT.refl hf,fun i c hc _=>hc,hr.bd,fun i l e md hi=>by rw[h4]at hi;cases hi⟩;exact act i l' e (s+2) (s+1) e1 e2 (.inr ⟨s,rfl,rfl⟩)
 obtain⟨s',a1,a2,a3,a4⟩:=hs;have sub:∀{k c},gt (fzH K b sz x.Y.h) k=some c->k≠K/\∃d,gt x.Y.h k=some d/\c=fzB K b sz d:=fun{k c} h=>by rw[AO]at h;split at h;cases h;rename_i hk;rcases hd:gt x.Y.h k with _|d;simp[hd]at h;simp[hd]at h;exact⟨hk,d,rfl,h.symm⟩
 have fD:Mo x.Y.nx x ⟨x.I,⟨fzH K b sz x.Y.h,x.Y.nx⟩,s'⟩:=by refine⟨fun k _ h2=>⟨h2,fun c hc=>?_⟩,fun i row e hl=>a2 i _ hl fun h=>hB.not1 h hl⟩;obtain⟨_,d,h1,rfl⟩:=sub hc;refine⟨d,h1,by rw[Dj];exact zF _,fun _=>⟨rfl,fun l e s st h=>?_⟩⟩;subst h;exact⟨_,rfl⟩
 have hfz:=fun u v h=>z7j (y:=⟨x.I,⟨fzH K b sz x.Y.h,x.Y.nx⟩,s'⟩) (sz:=sz) hg hB fD a4 u v h;have Co:∀{l:X U}{vs:X Value},bA x l vs->bA ⟨x.I,⟨fzH K b sz x.Y.h,x.Y.nx⟩,s'⟩ (gU K b sz l) vs:=fun{l vs} h=>⟨Ha hg hB fD a4 l vs h.1,by rw[YC];exact h.2⟩;refine⟨⟨x.I,⟨fzH K b sz x.Y.h,x.Y.nx⟩,s'⟩,a1,rfl,⟨fun k c hc=>?_,fun k k' c c' i h1 h2=>?_,a3⟩,fun i c hc=>?_,Co he,fun u v _ h=>fD.ke u v (aC.bel _ _ h) h⟩;obtain⟨hk,d,h1,rfl⟩:=sub hc;obtain⟨h2,h3⟩:=hr.ok k d h1;refine⟨h2,?_⟩;have cR:∀i,x.I k=some i->x.I K≠some i:=fun i h h'=>hk (hr.inj k K d b i h1 hg h h');cases d with
 |row l e=>obtain⟨k1,i,l',e1,e2,e3⟩:=h3;exact⟨wv _ _ _ _ k1,i,l',e1,a2 i _ e2 (cR i e1),Co e3⟩
 |vec l e s st=>obtain⟨k1,k2,h3⟩:=h3;refine⟨wv _ _ _ _ k1,k2,?_⟩;rcases h3 with⟨rfl,h4⟩|⟨i,l',e1,e2,e3⟩;exact .inl ⟨rfl,h4⟩;exact .inr ⟨i,l',e1,a2 i _ e2 (cR i e1),Co e3⟩
 |map es cl=>obtain⟨i,es',e1,e2,e3⟩:=h3;refine⟨i,es',e1,a2 i _ e2 (cR i e1),by simp[e3.1],fun j e he=>?_⟩;rw[List.getElem?_map]at he;rcases hj:es[j]? with _|e0;simp[hj]at he;simp[hj]at he;subst he;obtain⟨v,q1,q2,q3,q4⟩:=e3.2 j e0 hj;exact⟨v,q1,fD.ke _ _ (aC.bel _ _ q2) q2,hfz _ _ q3,q4⟩
 obtain⟨_,d,g1,_⟩:=sub h1;obtain⟨_,d',g2,_⟩:=sub h2;exact hr.inj k k' d d' i g1 g2;obtain⟨h1,h2⟩:=hf i c hc;refine⟨a2 i c h1 (h2 K b hg),fun k d hd=>?_⟩;obtain⟨_,d',g1,_⟩:=sub hd;exact h2 k d' g1
end Go.Vx
