import Derived.CallsIn
import Derived.OrdersIn
import Derived.Test.YtldlchbgolpkaaaGreatP6
set_option linter.all false
namespace Go.Vx
open Go Go.Rx
def eH(tm:List U)(d:Option Tmp)(u:U):List U:=match d with
 |none=>tm|some d=>tm.set d u
variable{x:Cx}
variable{tm:List U}
theorem Jk{tv:List Value}(h:bB x tm tv){u:U}{v:Value}(hu:aD x u v)(d:Option Tmp):bB x (eH tm d u) (KG tv d v):=by
 rcases d with _|d;exact h;exact h.set d hu
structure St(F:Nat->lB->Prop)(x:Cx)(tm:List U)(tv:List Value)(m:Nm)(w:World)(a:Act):Prop where
 h:jZ x
 fr:Fr F x
 e:bB x tm tv
 fits:gE m x.s w
 act:vF m x.s.nx tv a
def bA(P:Program)(f:FuncId)(args:List U)(O:Sg)(Q:U->Sg->Prop):Prop :=
 ∀F x vs m w bH,x.O=O->jZ x->Fr F x->bB x args vs->gE m x.s w->mW m x.s.nx vs bH->
  Calls P f bH.toArray w fun e w₁=>∃y aJ u v cv,e=.returned cv/\Q u y.O/\bP m x.s w aJ y.s w₁/\eN aJ y.s.nx v cv/\jZ y/\Fr F y/\aD y u v/\Ke x.O.nx x y/\x.O.nx<=y.O.nx
theorem Mo.nx{x y:Cx}(h:Mo x.O.nx x y):x.O.nx<=y.O.nx:=by
 cases hn:x.O.nx with|zero=>omega|succ n=>have:=(h.ref n (by omega) (by omega)).1;omega
theorem QF(P:Program):Bu P nc:=fun f args s v bE h=>by simp[nc]at h
theorem PT(a:Act)(d:Option Tmp)(v:Value):(a.put d v).defers=a.defers:=by cases d<;>rfl
section
variable{P:Program}{T:Tb}(hT:kS P T){F:Nat->lB->Prop}{x:Cx}{tm:List U}{tv:List Value}{m:Nm}{w:World}{a:Act}
include hT
variable{next:Act->World->Prop}
variable{Q:Exit->Act->World->Prop}
theorem St.op(st:St F x tm tv m w a)(o:Oper){u:U}{O':Sg}(h:bO T x.O tm o.op=some (u,O'))
  (hn:∀y dM aJ w₁ bJ,y.O=O'->St F y (eH tm o.dst u) dM aJ w₁ bJ->bP m x.s w aJ y.s w₁->Ke x.O.nx x y->x.O.nx<=y.O.nx->bJ.defers=a.defers->next bJ w₁):o.wp P a w next Q:=by
 obtain⟨v,y,h1,h2,h3,h4⟩:=WR st.h st.e h;refine QD hT (QF P) st.fits st.act o h1 fun aJ w₁ cv aR fX=>?_;exact hn y (KG tv o.dst v) aJ w₁ _ h2 ⟨h4.h,h4.fr F st.fr,Jk (h4.mo.ke.E st.e.bel st.e) h3 _,aR.fits,(st.act.ext aR.agree aR.nx).put fX o.dst⟩ aR h4.mo.ke h4.mo.nx (PT _ _ _)
theorem St.call(st:St F x tm tv m w a)(o:Oper){f:FuncId}{args:List U}(h:jL T tm o.op=some (f,args)){R:U->Sg->Prop}(kE:bA P f args x.O R)
  (hn:∀y u dM aJ w₁ bJ,R u y.O->St F y (eH tm o.dst u) dM aJ w₁ bJ->bP m x.s w aJ y.s w₁->Ke x.O.nx x y->x.O.nx<=y.O.nx->bJ.defers=a.defers->next bJ w₁):o.wp P a w next Q:=by
 obtain⟨vs,h1,h2⟩:=qva st.e h;obtain⟨bH,g1,g2⟩:=qrm hT st.act o w h1;unfold Oper.wp;rw[g1];show Calls P f _ w _;refine(kE F x vs m w bH rfl st.h st.fr h2 st.fits g2).mono ?_;rintro e w₁ ⟨y,aJ,u,v,cv,rfl,hR,aR,fX,hh,m9,B9,eS,m8⟩;exact hn y u (KG tv o.dst v) aJ w₁ _ hR ⟨hh,m9,Jk (eS.E st.e.bel st.e) B9 _,aR.fits,(st.act.ext aR.agree aR.nx).put fX o.dst⟩ aR eS m8 (PT _ _ _)
theorem St.nilq(st:St F x tm tv m w a)(o:Oper){t e ty:TypeId}{xo yo:Operand}{b:Bool}{l:List (List U)}(ho:o.op=.binOp .eql t xo yo ty)(hd:T.und t=some (.slice e))(hx:c6 tm xo=some (.isl b l))(hy:c6 tm yo=some .nils)
  (hn:∀(z:Bool) y dM aJ w₁ bJ,(z=true->l=[])->y.O=x.O->St F y (eH tm o.dst (.bool z)) dM aJ w₁ bJ->bP m x.s w aJ y.s w₁->Ke x.O.nx x y->x.O.nx<=y.O.nx->bJ.defers=a.defers->next bJ w₁):o.wp P a w next Q:=by
 obtain⟨vx,ex,rx⟩:=iF st.e hx;obtain⟨vy,ey,ry⟩:=iF st.e hy;simp only[aD]at rx ry;subst ry;have key:∃z:Bool,(z=true->l=[])/\xU T nc tv x.s o.op=some (.bool z,x.s):=by rw[ho];rcases rx with⟨hl,rfl |⟨r,rfl⟩⟩|⟨i,off,c,rfl,_⟩;exact⟨true,fun _=>hl,by simp[xU,hH,ex,ey,sS,yP,eqv,hd]⟩;exact⟨false,by simp,by simp[xU,hH,ex,ey,sS,yP,eqv,hd]⟩;exact⟨false,by simp,by simp[xU,hH,ex,ey,sS,yP,eqv,hd]⟩
 obtain⟨z,hz,sF⟩:=key;refine QD hT (QF P) st.fits st.act o sF fun aJ w₁ cv aR fX=>?_;exact hn z x (KG tv o.dst (.bool z)) aJ w₁ _ hz rfl ⟨st.h,st.fr,Jk st.e (by simp[aD]) _,aR.fits,(st.act.ext aR.agree aR.nx).put fX o.dst⟩ aR (Ke.refl _ _) (zF _) (PT _ _ _)
omit hT in
theorem St.skip(st:St F x tm tv m w a)(d:Option Tmp):St F x (eH tm d (.tup [])) (KG tv d undef) m w (a.put d undef):=
 ⟨st.h,st.fr,Jk st.e (by simp only[aD];exact⟨[],rfl,by simp[cD],rfl⟩) _,st.fits,st.act.put (yT fun _=>by simp[undef,aH,aI]) d⟩
end
def cP(aA:List Oper)(tm:List U)(o:Oper):Option Bool :=
 match o.guard with
 |none=>some true|some (j,want)=>match yO aA j with
  |none=>some false|some d=>match nth tm d with
   |some (.bool b)=>some (b==want)|some (.tup _)=>some false
   |_=>none
theorem yV{aA:List Oper}{tv:List Value}(ht:bB x tm tv){o:Oper}{b:Bool}(h:cP aA tm o=some b):Jc aA tv o=b:=by
 unfold cP at h;unfold Jc;rcases hg:o.guard with _|g;simp[hg]at h;simp[h];obtain⟨j,want⟩:=g;simp only[hg]at h ⊢;rcases hd:yO aA j with _|d;simp[hd]at h;simp[h];simp only[hd,iQ]at h ⊢;rcases hu:tm[d]? with _|u;simp[hu]at h;obtain⟨v,h1,h2⟩:=ht.get hu;rw[h1];cases u with
 |bool c=>simp only[hu,zA]at h;simp only[aD]at h2;subst h2;simp[h]|tup l=>simp only[hu,zA]at h;simp only[aD]at h2;obtain⟨vs,rfl,_⟩:=h2;simp[h]
 |_=>simp[hu]at h
def oN(ro:Option Nat):Fence:={ Fence.wide with round:=ro }
variable{ro:Option Nat}
variable{n:Nat}
variable{P:Program}
variable{w:World}
theorem ZZ{f:FuncId}{args:Array Value}{R:Ending->World->Prop}(h:Calls P f args w R):CallsIn (oN ro) n P f args w R:=(callsIn_wide (n:=n)).2 h
theorem Hy{row:String}{args:Array Value}{R:Value->World->Prop}(h:Rows P row args w R):RowsIn (oN ro) n P row args w R:=fun c cs _=>by
 obtain⟨v,w',r,s⟩:=h c cs;exact⟨v,w',r,(stepsIn_wide (P:=P)).2 s⟩
theorem S?:(oN ro).depth.isSome=true->1<=n:=fun h=>by simp[oN,Fence.wide]at h
theorem EI{o:Oper}{a:Act}{next:Act->World->Prop}{Q:Exit->Act->World->Prop}(ho:∀c,o.op≠.defer c)(h:o.wp P a w next Q):o.wpIn (oN ro) n P a w next Q:=by
 refine⟨fun _ _=>trivial,?_⟩;have e:o.semAt (oN ro).round a.eval=execOp a.eval o:=Oper.semAt_eq _ _ _ ho;rw[e];revert h;unfold Oper.wp;generalize (execOp a.eval o).run P w=r;intro h;unfold Oper.upon at h;split at h;exact h;exact h;exact h;exact⟨S?,ZZ h⟩;exact⟨S?,Hy h⟩;exact h;exact h.elim
theorem Bo{T:Tb}{O:Sg}{op:Op}{r:U×Sg}(h:bO T O tm op=some r):∀c,op≠.defer c:=by
 rintro c rfl;simp[bO,i8,pL,nO]at h
theorem Xj{T:Tb}{op:Op}{r:FuncId×List U}(h:jL T tm op=some r):∀c,op≠.defer c:=by
 rintro c rfl;simp[jL]at h
structure PG where
 prog:Program
 nb:Nat
 G:Cx->Nm->World->Prop
 ro:Option Nat->Prop
 mks:Bool
 st:∀{x y:Cx}{m m':Nm}{w w':World},G x m w->gE m x.s w->bP m x.s w m' y.s w'->Ke nb x y->G y m' w'
abbrev PG.of(P:Program):PG:=⟨P,0,fun _ _ _=>True,fun _=>True,false,fun _ _ _ _=>trivial⟩
structure SR(C:PG)(n0:Nat)(x:Cx)(m:Nm)(w:World):Prop where
 nb:C.nb<=n0
 g:C.G x m w
variable{m:Nm}
variable{m':Nm}
variable{w':World}
theorem SR.adv{C:PG}{n0:Nat}{y:Cx}(h:SR C n0 x m w)(hf:gE m x.s w)(ha:bP m x.s w m' y.s w')(hk:Ke n0 x y):SR C n0 y m' w':=⟨h.nb,C.st h.g hf ha (hk.le h.nb)⟩
def Va(b0:Nat)(w:World)(ds:List Deferred):Prop:=b0<=w.heap.size/\∃bs:List Nat,bs.Nodup/\ds=bs.map (fun b=>{ target:=.collected b,args:=#[] })/\∀b∈bs,b0<=b/\w.heap[b]? = some (.deferred (some []))
variable{s:S}
theorem z43(hf:gE m s w){b:Nat}{o:Obj}(h:w.heap[b]? = some o)(ho:∀c e f,o≠.cells c e f)(ae:∀q c,o≠.map q c):¬ O9 m s b:=by
 rintro⟨i,c,h1,h2,rfl⟩;have:=hf.fits.ok i c h1;rcases c with⟨l,e,md⟩|⟨es,cl⟩;simp only[wB]at this
 match md,this with
 |0,hr=>simp only[AU]at hr;rw[hr.2]at h;exact ho _ _ _ (Option.some.inj h).symm|1,hr=>simp[Own]at h2
 |n+2,hr=>simp only[AU]at hr;obtain⟨_,_,hr,_⟩:=hr;rw[hr]at h;exact ho _ _ _ (Option.some.inj h).symm
 simp only[wB]at this;rw[this]at h;exact ae _ _ (Option.some.inj h).symm
theorem z7c{s':S}(hf:gE m s w)(ha:bP m s w m' s' w'){b:Nat}{o:Obj}(h:w.heap[b]? = some o)(ho:∀c e f,o≠.cells c e f)(ae:∀q c,o≠.map q c):w'.heap[b]? = some o:=by
 rw[ha.same b (Array.getElem?_eq_some_iff.1 h).1 (z43 hf h ho ae)];exact h
theorem Va.adv{b0:Nat}{s':S}{ds:List Deferred}(h:Va b0 w ds)(hf:gE m s w)(ha:bP m s w m' s' w'):Va b0 w' ds:=by
 obtain⟨h0,bs,h1,h2,h3⟩:=h;exact⟨Nat.le_trans h0 ha.size,bs,h1,h2,fun b hb=>⟨(h3 b hb).1,z7c hf ha (h3 b hb).2 (by simp) (by simp)⟩⟩
structure DR(C:PG)(b0:Nat)(ds:List Deferred)(w':World)(ds':List Deferred):Prop where
 eq:C.mks=false->ds'=ds
 ok:C.mks=true->Va b0 w' ds'
theorem DR.trans{C:PG}{b0:Nat}{ds I8 ds2:List Deferred}{w1 w2:World}(h:DR C b0 ds w1 I8)(g:DR C b0 I8 w2 ds2):DR C b0 ds w2 ds2:=⟨fun hk=>(g.eq hk).trans (h.eq hk),g.ok⟩
theorem DR.here{C:PG}{b0:Nat}{ds I8:List Deferred}{w1:World}(h:DR C b0 ds w1 I8):DR C b0 I8 w1 I8:=⟨fun _=>rfl,h.ok⟩
theorem DR.adv{C:PG}{b0:Nat}{ds I8:List Deferred}{m:Nm}{s:S}{w:World}{m':Nm}{s':S}{w':World}(h:DR C b0 ds w I8)(hf:gE m s w)(ha:bP m s w m' s' w'):DR C b0 ds w' I8:=⟨h.eq,fun hk=>(h.ok hk).adv hf ha⟩
def EC(C:PG)(O:Sg)(tm:List U)(o:Oper)(R:U->Sg->Prop):Prop :=
 ∀(F:Nat->lB->Prop)(x:Cx)(tv:List Value)(m:Nm)(w:World)(a:Act)(next:Act->World->Prop)(Q:Exit->Act->World->Prop),x.O=O->St F x tm tv m w a->SR C x.O.nx x m w-> (∀u y dM aJ w₁ bJ,R u y.O->St F y (eH tm o.dst u) dM aJ w₁ bJ->bP m x.s w aJ y.s w₁->Ke x.O.nx x y->x.O.nx<=y.O.nx->bJ.defers=a.defers->next bJ w₁)->∀ro,C.ro ro->o.wpIn (oN ro) 0 C.prog a w next Q
def RU(C:PG)(T:Tb)(aA:List Oper):List Oper->List U->Sg->(List U->Sg->Prop)->Prop
 |[],tm,O,K=>K tm O|o::r,tm,O,K=>(cP aA tm o=some true/\∃u O',bO T O tm o.op=some (u,O')/\RU C T aA r (eH tm o.dst u) O' K)\/ (cP aA tm o=some true/\∃f args R,jL T tm o.op=some (f,args)/\bA C.prog f args O R/\∀u O',R u O'->RU C T aA r (eH tm o.dst u) O' K)\/ (cP aA tm o=some false/\RU C T aA r (eH tm o.dst (.tup [])) O K)\/ (cP aA tm o=some true/\∃t xo yo ty e b l,o.op=.binOp .eql t xo yo ty/\T.und t=some (.slice e)/\c6 tm xo=some (.isl b l)/\c6 tm yo=some .nils/\∀z:Bool,(z=true->l=[])->RU C T aA r (eH tm o.dst (.bool z)) O K)\/ (cP aA tm o=some true/\∃R,EC C O tm o R/\∀u O',R u O'->RU C T aA r (eH tm o.dst u) O' K)
def vk(C:PG)(n0:Nat)(F:Nat->lB->Prop)(x:Cx)(m:Nm)(w:World)(ds:List Deferred)(b0:Nat)(Q:Exit->List U->Sg->Prop):Exit->Act->World->Prop:=fun e a' w'=>
 ∃y tm' dM m',Q e tm' y.O/\St F y tm' dM m' w' a'/\bP m x.s w m' y.s w'/\Ke n0 x y/\n0<=y.O.nx/\DR C b0 ds w' a'.defers
def WPU(C:PG)(n0:Nat)(c:Code)(tm:List U)(O:Sg)(Q:Exit->List U->Sg->Prop):Prop :=
 n0<=O.nx->∀F x tv m w a b0,x.O=O->St F x tm tv m w a->SR C n0 x m w->DR C b0 a.defers w a.defers->∀ro,C.ro ro->c.wpIn (oN ro) 0 C.prog (vk C n0 F x m w a.defers b0 Q) a w
section
variable{C:PG}{n0:Nat}{Q:Exit->List U->Sg->Prop}{tm:List U}{O:Sg}
def CG(K:List U->Sg->Prop)(Q:Exit->List U->Sg->Prop):Exit->List U->Sg->Prop
 |.normal,tm,s=>K tm s|e,tm,s=>Q e tm s
theorem WPU.seq{p q:Code}(h:WPU C n0 p tm O (CG (fun tm O=>WPU C n0 q tm O Q) Q)):WPU C n0 (.seq p q) tm O Q:=fun hn F x tv m w a b0 hx st hG hd ro jC=>by
 refine wpIn_seq (wpIn_mono (h hn F x tv m w a b0 hx st hG hd ro jC) ?_);rintro e a' w' ⟨y,tm',dM,m',h1,h2,h3,h4,h5,h6⟩;cases e with
 |normal=>refine wpIn_mono (h1 h5 F y dM m' w' a' b0 rfl h2 (hG.adv st.fits h3 h4) h6.here ro jC) ?_;rintro e a'' w'' ⟨z,iL,tv'',m'',g1,g2,g3,g4,g5,g6⟩;exact⟨z,iL,tv'',m'',g1,g2,h3.trans g3,h4.trans g4,g5,h6.trans g6⟩
 |_=>exact⟨y,tm',dM,m',h1,h2,h3,h4,h5,h6⟩
theorem WPU.skip(h:Q .normal tm O):WPU C n0 .skip tm O Q:=fun hn F x tv m w a b0 hx st hG hd ro jC=>wpIn_skip ⟨x,tm,tv,m,hx ▸ h,st,bP.refl st.fits,Ke.refl _ _,hx ▸ hn,hd⟩
theorem WPU.ret(h:Q .ret tm O):WPU C n0 .ret tm O Q:=fun hn F x tv m w a b0 hx st hG hd ro jC=>wpIn_ret ⟨x,tm,tv,m,hx ▸ h,st,bP.refl st.fits,Ke.refl _ _,hx ▸ hn,hd⟩
theorem WPU.exit{id:Nat}(h:Q (.exit id) tm O):WPU C n0 (.exit id) tm O Q:=fun hn F x tv m w a b0 hx st hG hd ro jC=>wpIn_exit ⟨x,tm,tv,m,hx ▸ h,st,bP.refl st.fits,Ke.refl _ _,hx ▸ hn,hd⟩
theorem WPU.cond{c:Operand}{p q:Code}{t:Bool}(hc:c6 tm c=some (.bool t))(h1:t=true->WPU C n0 p tm O Q)(h2:t=false->WPU C n0 q tm O Q):WPU C n0 (.cond c p q) tm O Q:=fun hn F x tv m w a b0 hx st hG hd ro jC=>by
 obtain⟨v,e1,e2⟩:=iF st.e hc;simp only[aD]at e2;subst e2;have he:=(st.act.evalO e1).at;simp only[aH]at he;rcases t with _|_;exact wpIn_cond_false he.symm (h2 rfl hn F x tv m w a b0 hx st hG hd ro jC);exact wpIn_cond_true he.symm (h1 rfl hn F x tv m w a b0 hx st hG hd ro jC)
def yQ(id:Nat)(Q:Exit->List U->Sg->Prop):Exit->List U->Sg->Prop
 |.exit id',tm,s=>if id'=id then Q .normal tm s else Q (.exit id') tm s|e,tm,s=>Q e tm s
theorem aV{id:Nat}{c:Code}(h:WPU C n0 c tm O (yQ id Q)):WPU C n0 (.block id c) tm O Q:=fun hn F x tv m w a b0 hx st hG hd ro jC=>by
 refine wpIn_block (wpIn_mono (h hn F x tv m w a b0 hx st hG hd ro jC) ?_);rintro e a' w' ⟨y,tm',dM,m',h1,h2⟩;cases e with
 |exit id'=>simp only[Exit.inBlock];simp only[yQ]at h1;by_cases N2:id'=id;simp only[N2,if_true]at h1 ⊢;exact⟨y,tm',dM,m',h1,h2⟩;simp only[N2,if_false]at h1 ⊢;exact⟨y,tm',dM,m',h1,h2⟩|_=>exact⟨y,tm',dM,m',h1,h2⟩
theorem WPU.loop{c:Code}(I:Nat->List U->Sg->Prop)(n:Nat)(h₀:I n tm O)(round:∀n tm O,I n tm O->WPU C n0 c tm O (CG (fun tm' O'=>∃n',n'<n/\I n' tm' O') Q)):WPU C n0 (.loop c) tm O Q:=by
 intro hn F x tv m w a b0 hx st hG hd ro jC b k cs hbr hb hr;have key:∀n tm O,I n tm O->n0<=O.nx->∀x tv m w a,x.O=O->St F x tm tv m w a->SR C n0 x m w->DR C b0 a.defers w a.defers->∃e a' w',vk C n0 F x m w a.defers b0 Q e a' w'/\ArrivesIn (Machine.fenced C.prog (oN ro)) C.prog (lone (b.atR a (.code c :: .inLoop c::k)) cs w) b k cs e a' w':=by
  intro n;induction n using Nat.strongRecOn with
  |_ n ih=>
   intro tm O hI hn x tv m w a hx st hG hd;obtain⟨e,bJ,w₁,⟨y,tP,tO,aJ,hq,c8,aR,eS,m8,jQ⟩,wW⟩:=round n tm O hI hn F x tv m w a b0 hx st hG hd ro jC b (.inLoop c::k) cs hbr hb hr;cases e with
   |normal=>obtain⟨n',aG,hI'⟩:=hq;obtain⟨nh,ow,n9,⟨z,Hq,Ho,CV,Qd,XX,NE,YA,Y3,YK⟩,NC⟩:=ih n' aG tP y.O hI' m8 y tO aJ w₁ bJ rfl c8 (hG.adv st.fits aR eS) jQ.here;exact⟨nh,ow,n9,⟨z,Hq,Ho,CV,Qd,XX,aR.trans NE,eS.trans YA,Y3,jQ.trans YK⟩,.of_steps (StepsIn.trans wW (.one (fenced_calm hb hr rfl) stepR_inLoop)) NC⟩
   |exit id=>exact⟨_,bJ,w₁,⟨y,tP,tO,aJ,hq,c8,aR,eS,m8,jQ⟩,.pass (x:=.inLoop c) rfl (fun _ _=>.inl (by simp)) wW⟩|goto l=>exact⟨_,bJ,w₁,⟨y,tP,tO,aJ,hq,c8,aR,eS,m8,jQ⟩,.pass (x:=.inLoop c) rfl (fun _ _=>.inl (by simp)) wW⟩
   |ret=>exact⟨_,bJ,w₁,⟨y,tP,tO,aJ,hq,c8,aR,eS,m8,jQ⟩,.pass (x:=.inLoop c) rfl (fun _ _=>.inl (by simp)) wW⟩|panic ch=>exact⟨_,bJ,w₁,⟨y,tP,tO,aJ,hq,c8,aR,eS,m8,jQ⟩,.pass (x:=.inLoop c) rfl (fun _ _=>.inl (by simp)) wW⟩
   |outgrown=>exact⟨_,bJ,w₁,⟨y,tP,tO,aJ,hq,c8,aR,eS,m8,jQ⟩,.pass (x:=.inLoop c) rfl (fun _ _=>.inl (by simp)) wW⟩
 obtain⟨e,a',w',hq,wW⟩:=key n tm O h₀ hn x tv m w a hx st hG hd;exact⟨e,a',w',hq,.of_steps (.one (fenced_calm hb hr rfl) stepR_loop) wW⟩
def Gh(n0:Nat)(tm:List U)(O:Sg)(tm':List U)(O':Sg):Prop :=
 ∀F x tv,x.O=O->jZ x->Fr F x->bB x tm tv->∃y,(∀m w,gE m x.s w->bP m x.s w m y.s w)/\y.O=O'/\jZ y/\Fr F y/\bB y tm' tv/\Ke n0 x y
theorem Gh.refl(n0:Nat)(tm:List U)(O:Sg):Gh n0 tm O tm O:=fun F x tv hx h hf he=>⟨x,fun m w hf=>bP.refl hf,hx,h,hf,he,Ke.refl _ _⟩
theorem Gh.trans{tm' iL:List U}{O' bT:Sg}(h:Gh n0 tm O tm' O')(h':Gh n0 tm' O' iL bT):Gh n0 tm O iL bT:=fun F x tv hx hh hf he=>by
 obtain⟨y,h1,h2,h3,h4,h5,h6⟩:=h F x tv hx hh hf he;obtain⟨z,g1,g2,g3,g4,g5,g6⟩:=h' F y tv h2 h3 h4 h5;exact⟨z,fun m w hf=>(h1 m w hf).trans (g1 m w (h1 m w hf).fits),g2,g3,g4,g5,h6.trans g6⟩
theorem c9{c:Code}{tm':List U}{O':Sg}(h:Gh n0 tm O tm' O')(uR:n0<=O'.nx)(hw:WPU C n0 c tm' O' Q):WPU C n0 c tm O Q:=fun hn F x tv m w a b0 hx st hG hd ro jC=>by
 obtain⟨y,h1,h2,h3,h4,h5,h6⟩:=h F x tv hx st.h st.fr st.e;have aR:=h1 m w st.fits;refine wpIn_mono (hw uR F y tv m w a b0 h2 ⟨h3,h4,h5,aR.fits,st.act.ext aR.agree aR.nx⟩ (hG.adv st.fits aR h6) hd ro jC) ?_;rintro e a' w' ⟨z,iL,tv'',m'',g1,g2,g3,g4,g5,g6⟩;exact⟨z,iL,tv'',m'',g1,g2,aR.trans g3,h6.trans g4,g5,g6⟩
theorem WPU.after{c:Code}{Q':Exit->List U->Sg->Prop}(h:WPU C n0 c tm O Q')(hq:∀e tm O,n0<=O.nx->Q' e tm O->∃tm' O',n0<=O'.nx/\Gh n0 tm O tm' O'/\Q e tm' O'):WPU C n0 c tm O Q:=fun hn F x tv m w a b0 hx st hG hd ro jC=>by
 refine wpIn_mono (h hn F x tv m w a b0 hx st hG hd ro jC) ?_;rintro e a' w' ⟨y,tm',dM,m',h1,h2,h3,h4,h5,h6⟩;obtain⟨iL,bT,q1,q2,q3⟩:=hq e tm' y.O h5 h1;obtain⟨z,g1,g2,g3,g4,g5,g6⟩:=q2 F y dM rfl h2.h h2.fr h2.e;have aR:=g1 m' w' h2.fits;exact⟨z,iL,dM,m',g2 ▸ q3,⟨g3,g4,g5,aR.fits,h2.act.ext aR.agree aR.nx⟩,h3.trans aR,h4.trans g6,g2 ▸ q1,h6⟩
variable{T:Tb}(hT:kS C.prog T)
include hT
theorem Bd(aA:Array Oper)(E:Exit->Act->World->Prop){F:Nat->lB->Prop}{x0:Cx}{m0:Nm}{w0:World}{df:List Deferred}(K:List U->Sg->Prop)(A8:SR C n0 x0 m0 w0)(wQ:gE m0 x0.s w0)(ro:Option Nat)(jC:C.ro ro):
  ∀(rest:List Oper)(i:Nat),aA.toList.drop i=rest->∀(x:Cx)(tm:List U)(tv:List Value)(m:Nm)(w:World)(a:Act),St F x tm tv m w a->a.defers=df->bP m0 x0.s w0 m x.s w->Ke n0 x0 x->n0<=x.O.nx->RU C T aA.toList rest tm x.O K->
   (∀y tm' dM m' w' a',K tm' y.O->St F y tm' dM m' w' a'->bP m0 x0.s w0 m' y.s w'->Ke n0 x0 y->n0<=y.O.nx->a'.defers=df->E .normal a' w')->wpOpsIn (oN ro) 0 C.prog aA E (List.range' i rest.length) a w
 |[],i,_,x,tm,tv,m,w,a,st,hd,aR,eS,hn,h,hQ=>by simp only[zS,List.range'_zero,wpOpsIn];exact hQ x tm tv m w a h st aR eS hn hd
 |o::rest,i,K8,x,tm,tv,m,w,a,st,hd,aR,eS,hn,h,hQ=>by
  have ho:aA[i]? = some o:=by have:=congrArg (fun l=>l[0]?) K8;simpa using this
  have bD:aA.toList.drop (i+1)=rest:=by have:=congrArg List.tail K8;simpa using this
  simp only[zO,List.range'_succ,wpOpsIn,ho,sr (st.act m (aK.refl _ _)) aA o];simp only[RU]at h;rcases h with⟨hw,u,O',h1,h2⟩|⟨hw,f,args,R,h1,h2,h3⟩|⟨hw,h1⟩|⟨hw,t,xo,yo,ty,e,b,l,h1,h2,h3,h4,h5⟩|⟨hw,R,h1,h2⟩;rw[yV st.e hw];simp only[if_true];refine EI (Bo h1) (st.op hT o h1 fun y dM aJ w₁ bJ e1 cT bW dO m8 jQ=>?_);exact Bd aA E K A8 wQ ro jC rest (i+1) bD y _ dM aJ w₁ bJ cT (jQ.trans hd) (aR.trans bW) (eS.trans (dO.le hn)) (by omega) (e1 ▸ h2) hQ;rw[yV st.e hw];simp only[if_true];refine EI (Xj h1) (st.call hT o h1 h2 fun y u dM aJ w₁ bJ hR cT bW dO m8 jQ=>?_);exact Bd aA E K A8 wQ ro jC rest (i+1) bD y _ dM aJ w₁ bJ cT (jQ.trans hd) (aR.trans bW) (eS.trans (dO.le hn)) (by omega) (h3 u y.O hR) hQ;rw[yV st.e hw];simp only[Bool.false_eq_true,if_false];exact⟨fun _ _=>trivial,Bd aA E K A8 wQ ro jC rest (i+1) bD x _ _ m w _ (st.skip o.dst) ((PT _ _ _).trans hd) aR eS hn h1 hQ⟩;rw[yV st.e hw];simp only[if_true];refine EI (by rw[h1];intro c hc;cases hc) (st.nilq hT o h1 h2 h3 h4 fun z y dM aJ w₁ bJ hz e1 cT bW dO m8 jQ=>?_);exact Bd aA E K A8 wQ ro jC rest (i+1) bD y _ dM aJ w₁ bJ cT (jQ.trans hd) (aR.trans bW) (eS.trans (dO.le hn)) (by omega) (e1 ▸ h5 z hz) hQ;rw[yV st.e hw];simp only[if_true];refine h1 F x tv m w a _ _ rfl st ⟨Nat.le_trans A8.nb hn,(A8.adv wQ aR eS).g⟩ (fun u y dM aJ w₁ bJ hR cT bW dO m8 jQ=>?_) ro jC;exact Bd aA E K A8 wQ ro jC rest (i+1) bD y _ dM aJ w₁ bJ cT (jQ.trans hd) (aR.trans bW) (eS.trans (dO.le hn)) (by omega) (h2 u y.O hR) hQ
theorem WPU.region{id:Nat}{aA:Array Oper}(h:RU C T aA.toList aA.toList tm O (fun tm' O'=>Q .normal tm' O')):WPU C n0 (.region id aA false) tm O Q:=fun hn F x tv m w a b0 hx st hG hd ro jC=>by
 subst hx;refine wpIn_region ?_;have:=Bd hT aA (vk C n0 F x m w a.defers b0 Q) (F:=F) (x0:=x) (m0:=m) (w0:=w) (df:=a.defers) (fun tm' O'=>Q .normal tm' O') hG st.fits ro jC aA.toList 0 (by simp) x tm tv m w a st rfl (bP.refl st.fits) (Ke.refl _ _) hn h
  (fun y tm' dM m' w' a' h1 h2 h3 h4 h5 h6=>⟨y,tm',dM,m',h1,h2,h3,h4,h5,by rw[h6];exact hd.adv st.fits h3⟩)
 rw[List.range_eq_range'];simpa using this
end
def nM(T:Tb)(O:Sg)(tm:List U):List ResultVar->Option (List U)
 |[]=>some []|.tmp t::r=>match nth tm t with
  |some v=>(match nM T O tm r with
   |some l=>some (v::l)|none=>none)
  |none=>none
 |.cell a t::r=>match pL T O tm (.load t (.tmp a))with
  |some v=>(match nM T O tm r with
   |some l=>some (v::l)|none=>none)
  |none=>none
def pG:List U->U
 |[v]=>v|l=>.tup l
theorem Ji{T:Tb}{x:Cx}(hx:jZ x){tm:List U}{tv:List Value}(ht:bB x tm tv):∀{rs:List ResultVar}{us:List U},nM T x.O tm rs=some us->∃vs,E5 T tv x.s rs=some vs/\bB x us vs
 |[],us,h=>by simp only[nM,zA]at h;subst h;exact⟨[],rfl,bB.nil x⟩
 |.tmp t::rs,us,h=>by simp only[nM,iQ]at h;rcases h1:tm[t]? with _|u;simp[h1]at h;rcases h2:nM T x.O tm rs with _|l;simp[h1,h2]at h;simp only[h1,h2,zA]at h;subst h;obtain⟨v,e1,e2⟩:=ht.get h1;obtain⟨vs,e3,e4⟩:=Ji hx ht h2;exact⟨v::vs,by simp[E5,iQ,e1,e3],bB.cons e2 e4⟩
 |.cell a t::rs,us,h=>by
  simp only[nM]at h;rcases h1:pL T x.O tm (.load t (.tmp a))with _|u;simp[h1]at h;rcases h2:nM T x.O tm rs with _|l;simp[h1,h2]at h;simp only[h1,h2,zA]at h;subst h;obtain⟨v,y,e1,e2,e3,e4⟩:=qwn hx ht h1;obtain⟨vs,e5,e6⟩:=Ji hx ht h2;have hp:hH T tv (.load t (.tmp a))=none:=rfl;have he:rX T tv x.s (.load t (.tmp a))=none:=rfl;have hc:callOf T tv (.load t (.tmp a))=none:=rfl;unfold xU at e1;simp only[hp,he,hc]at e1;rcases qS:mX T tv x.s (.load t (.tmp a))with _|v';simp[qS]at e1;simp only[qS,zA,zB]at e1;obtain⟨rfl,hs⟩:=e1;refine⟨v'::vs,by simp[E5,qS,e5],bB.cons ?_ e6⟩;have fM:Mo y.O.nx y x:=by refine⟨fun k hk wP=>?_,fun i row e hl=>by rw[hs];exact hl⟩;rw[e2]at wP ⊢;refine⟨wP,fun b hb=>⟨b,hb,zF _,fun _=>⟨?_,fun l e sz st h=>⟨l,h⟩⟩⟩⟩;have:=(e4.mo.ref k (by rw[<-e2];exact hk) wP).2 b (by rw[e2];exact hb);obtain⟨b',q1,q2,q3⟩:=this;rw[hb]at q1;cases q1;exact(q3 rfl).1.symm
  exact fM.ke u _ (aD.bel _ _ e3) e3
theorem p?{us:List U}{vs:List Value}(h:bB x us vs):aD x (pG us) (vD vs):=by
 match us,vs,h with
 |[],vs,h=>rw[h.nil_inv];simp only[pG,vD,aD];exact⟨[],rfl,by simp[cD],rfl⟩|[u],vs,h=>obtain⟨v,tN,rfl,h1,h2⟩:=h.inv;rw[h2.nil_inv];exact h1
 |u::u'::us,vs,h=>obtain⟨v,tN,rfl,h1,h2⟩:=h.inv;obtain⟨v',vs'',rfl,h3,h4⟩:=h2.inv;simp only[pG,vD,aD];exact⟨_,rfl,h.1,h.2⟩
def AO:Nat->List U->List U
 |0,l=>l|n+1,[]=>.tup []::AO n []
 |n+1,v::l=>v::AO n l
theorem Jl{x:Cx}:∀(n:Nat){us:List U}{vs:List Value},bB x us vs->bB x (AO n us) (pad n vs)
 |0,us,vs,h=>h|n+1,[],vs,h=>by rw[h.nil_inv];exact bB.cons (by simp only[aD];exact⟨[],rfl,by simp[cD],rfl⟩) (Jl n (bB.nil x))
 |n+1,u::us,vs,h=>by obtain⟨v,tN,rfl,h1,h2⟩:=h.inv;exact bB.cons h1 (Jl n h2)
section
variable{P:Program}{T:Tb}(hT:kS P T)
include hT
theorem Av{f:FuncId}{fn:Func}{c:Code}{args:List U}{O:Sg}{R:U->Sg->Prop}(hf:T.fn f=some fn)(hb:fn.body=some c)
  (h:WPU (PG.of P) O.nx c (AO fn.ntmps args) O fun e tm' O'=>(e=.normal\/e=.ret)/\∃l,nM T O' tm' fn.results.toList=some l/\∃u' bT,O.nx<=bT.nx/\Gh O.nx [pG l] O' [u'] bT/\R u' bT):bA P f args O R:=fun F x vs m w bH hx hh m9 he fH d9=>by
 obtain⟨wQ,_⟩:=hT.fn f fn hf;have fF:bH.length=vs.length:=by rw[<-d9.at];simp
 refine calls_of_wp wQ hb ?_;have HM:vF m x.s.nx (pad fn.ntmps vs) { tmps:=bH.toArray++Array.replicate (fn.ntmps-bH.toArray.size) undef,defers:=[] }:=fun m' eG=>by simp only[vz,wG,d9 m' eG,fF,List.size_toArray];apply Array.ext';simp[m4,aH,undef]
 refine wp_mono ((wpIn_wide (n:=0)).1 (h (zF _) F x _ m w _ 0 hx ⟨hh,m9,Jl _ he,fH,HM⟩ ⟨Nat.zero_le _,trivial⟩ ⟨fun _=>rfl,fun h=>by cases h⟩ none trivial)) ?_;rintro e a' w' ⟨y,tm',dM,m',⟨y4,l,kD,u',bT,m8,Qy,hR⟩,cT,aR,eS,hn,fa⟩;have jQ:a'.defers=[]:=fa.eq rfl;obtain⟨ls,H2,Fj⟩:=Ji cT.h cT.e kD;have cR:∀m'',aK y.s.nx m' m''->(results fn a'.tmps).run P w'=.ok (aH m'' (vD ls)) w':=fun m'' kY=>by rw[cT.act m'' kY];exact pz hT (cT.fits m'' kY) H2
 have fX:eN m' y.s.nx (vD ls) (aH m' (vD ls)):=fun m'' kY=>by have e1:=cR m'' kY;rw[cR m' (aK.refl _ _)]at e1;simp at e1;exact e1.symm
 obtain⟨z,z1,z2,z3,z4,z5,z6⟩:=Qy F y [vD ls] rfl cT.h cT.fr (bB.cons (p? Fj) (bB.nil y));obtain⟨v0,Gj,e0,z7,_⟩:=z5.inv;cases e0;have dA:=z1 m' w' cT.fits;have BC:bodyPost P fn (fun e w₁=>∃y aJ u v cv,e=.returned cv/\R u y.O/\bP m x.s w aJ y.s w₁/\eN aJ y.s.nx v cv/\jZ y/\Fr F y/\aD y u v/\Ke x.O.nx x y/\x.O.nx<=y.O.nx) .ret a' w' :=
  ⟨jQ,_,cR m' (aK.refl _ _),z,m',u',vD ls,_,rfl,z2 ▸ hR,aR.trans dA,fX.ext (aK.refl _ _) dA.nx,z3,z4,z7,hx ▸ eS.trans z6,by rw[hx,z2];exact m8⟩
 rcases y4 with rfl |rfl;exact BC;exact BC
end
theorem bA.mono{P:Program}{f:FuncId}{args:List U}{O:Sg}{R R':U->Sg->Prop}(h:bA P f args O R)(hr:∀u O',R u O'->R' u O'):bA P f args O R':=fun F x vs m w bH hx hh m9 he fH d9=>
 (h F x vs m w bH hx hh m9 he fH d9).mono fun _ _ ⟨y,aJ,u,v,cv,h1,h2,h3⟩=>⟨y,aJ,u,v,cv,h1,hr _ _ h2,h3⟩
end Go.Vx
namespace Go.Vx
open Go Go.Rx
theorem bA.pure{P:Program}{f:FuncId}{args:List U}{R:U->Prop}(h:bA P f args ⟨[],0⟩ (fun u _=>R u/\b7 0 u))(ha:aN 0 args)(O:Sg):bA P f args O (fun u O'=>R u/\O'=O):=fun F x vs m w bH hx hh m9 he fH d9=>by
 have h0:jZ ⟨fun _=>none,⟨[],0⟩,x.s⟩:=⟨fun k b hb=>by simp[gt]at hb,fun k k' b b' i hb=>by simp[gt]at hb,hh.bd⟩;have ap:Mo 0 x ⟨fun _=>none,⟨[],0⟩,x.s⟩:=⟨fun k hk=>by omega,fun _ _ _ h=>h⟩;refine(h (fun i b=>lk x.s.h i=some b) ⟨fun _=>none,⟨[],0⟩,x.s⟩ vs m w bH rfl h0 (fun i b hb=>⟨hb,fun k c hc=>by simp[gt]at hc⟩) (ap.ke.E ha he) fH d9).mono ?_;rintro e w₁ ⟨y,aJ,u,v,cv,rfl,⟨hR,fF⟩,aR,fX,Qw,uT,B9,_,_⟩;have fM:Mo x.O.nx x ⟨x.Y,x.O,y.s⟩:=⟨fun k _ h2=>⟨h2,fun b hb=>⟨b,hb,zF _,fun _=>⟨rfl,fun l e sz st h=>⟨l,h⟩⟩⟩⟩,fun i row e hl=>(uT i _ hl).1⟩;have hm1:Mo 0 y ⟨x.Y,x.O,y.s⟩:=⟨fun k hk=>by omega,fun _ _ _ h=>h⟩;refine⟨⟨x.Y,x.O,y.s⟩,aJ,u,v,cv,rfl,⟨hR,hx⟩,aR,fX,⟨fun k b hb=>?_,hh.inj,Qw.bd⟩,fun i b hb=>?_,hm1.ke u v fF B9,fM.ke,zF _⟩;obtain⟨h1,h2⟩:=hh.ok k b hb;exact⟨h1,h2.mono fM rfl fun i c _ hl=>(uT i c hl).1⟩;obtain⟨h1,h2⟩:=m9 i b hb;exact⟨(uT i b h1).1,h2⟩
def BelB(n:Nat):B->Prop
 |.row l _=>aN n l|.vec l _ _ _=>aN n l
 |.map es _=>∀e∈es,b7 n e.key/\b7 n e.val
def E9(n:Nat):List (Nat×B)->Prop
 |[]=>True|(_,b)::h=>BelB n b/\E9 n h
def cut(n:Nat):List (Nat×B)->List (Nat×B)
 |[]=>[]|(k,b)::h=>cond (Nat.blt k n) ((k,b)::cut n h) (cut n h)
theorem Is(n:Nat)(h:List (Nat×B))(k:Nat):gt (cut n h) k=if k<n then gt h k else none:=by
 induction h with|nil=>simp[cut,gt]|cons p h ih=>obtain⟨j,b⟩:=p;simp only[cut];by_cases hj:j<n;rw[pN hj];simp only[zC,lG,ih];by_cases D8:j=k;subst D8;simp[hj];simp[D8];rw[JF hj];simp only[zD,lG,ih];by_cases D8:j=k;subst D8;simp[hj];simp[D8]
theorem z2u{n:Nat}{h:List (Nat×B)}(hb:E9 n h){k:Nat}{b:B}(hg:gt h k=some b):BelB n b:=by
 induction h with|nil=>simp[gt]at hg|cons p h ih=>obtain⟨j,c⟩:=p;simp only[E9]at hb;simp only[lG]at hg;split at hg;cases hg;exact hb.1;exact ih hb.2 hg
theorem nI.monoB{n:Nat}{x y:Cx}{k:Nat}{b:B}(h:nI x k b)(hb:BelB n b)(hm:Mo n x y)(jP:y.Y k=x.Y k)(hl:∀i c,x.Y k=some i->lk x.s.h i=some c->lk y.s.h i=some c):nI y k b:=by
 cases b with
 |row l e=>obtain⟨k1,i,l',e1,e2,e3⟩:=h;exact⟨k1,i,l',by rw[jP,e1],hl _ _ e1 e2,hm.ke.E hb e3⟩
 |vec l e sz st=>obtain⟨k1,k2,h3⟩:=h;refine⟨k1,k2,?_⟩;rcases h3 with⟨h3,h4⟩|⟨i,l',e1,e2,e3⟩;exact .inl ⟨h3,by rw[jP,h4]⟩;exact .inr ⟨i,l',by rw[jP,e1],hl _ _ e1 e2,hm.ke.E hb e3⟩
 |map es cl=>obtain⟨i,es',e1,e2,e3⟩:=h;refine⟨i,es',by rw[jP,e1],hl _ _ e1 e2,e3.1,fun j e he=>?_⟩;obtain⟨v,q1,q2,q3,q4⟩:=e3.2 j e he;have:=hb e (zX he);exact⟨v,q1,hm.ke _ _ this.1 q2,hm.ke _ _ this.2 q3,q4⟩
def FX:List Bool->List U->List U
 |true::l,_::tm=>.junk::FX l tm|false::l,u::tm=>u::FX l tm
 |_,tm=>tm
theorem uu{x:Cx}:∀(l:List Bool){tm:List U}{tv:List Value},bB x tm tv->bB x (FX l tm) tv
 |[],tm,tv,h=>by cases tm<;>exact h
 |true::l,[],tv,h=>h|false::l,[],tv,h=>h
 |true::l,u::tm,tv,h=>by obtain⟨v,vs,rfl,h1,h2⟩:=h.inv;exact bB.cons (by simp[aD]) (uu l h2)
 |false::l,u::tm,tv,h=>by obtain⟨v,vs,rfl,h1,h2⟩:=h.inv;exact bB.cons h1 (uu l h2)
theorem Gh.junk(n0:Nat)(l:List Bool)(tm:List U)(O:Sg):Gh n0 tm O (FX l tm) O:=fun F x tv hx h hf he=>⟨x,fun m w hf=>bP.refl hf,hx,h,hf,uu l he,Ke.refl _ _⟩
theorem Gh.cut{n0 n1:Nat}{tm:List U}{O:Sg}(h1:n0<=n1)(h2:n1<=O.nx)(hb:aN n1 tm)(hh:E9 n1 (Vx.cut n1 O.h)):Gh n0 tm O tm ⟨Vx.cut n1 O.h,n1⟩:=fun F x tv hx hr hf he=>by
 subst hx;have fM:Mo n1 x ⟨x.Y,⟨Vx.cut n1 x.O.h,n1⟩,x.s⟩:=by refine⟨fun k hk _=>⟨hk,fun b hb=>?_⟩,fun _ _ _ h=>h⟩;simp only[Is,hk,if_true]at hb;exact⟨b,hb,zF _,fun _=>⟨rfl,fun l e sz st h=>⟨l,h⟩⟩⟩
 have sub:∀{k b},gt (Vx.cut n1 x.O.h) k=some b->k<n1/\gt x.O.h k=some b:=fun{k b} hg=>by simp only[Is]at hg;split at hg;exact⟨by assumption,hg⟩;cases hg
 refine⟨⟨x.Y,⟨Vx.cut n1 x.O.h,n1⟩,x.s⟩,fun m w hf=>bP.refl hf,rfl,⟨fun k b hg=>?_,fun k k' b b' i g1 g2=>hr.inj k k' b b' i (sub g1).2 (sub g2).2,hr.bd⟩,fun i b J=>?_,fM.ke.E hb he,fM.ke.le h1⟩;exact⟨(sub hg).1,(hr.ok k b (sub hg).2).2.monoB (z2u hh hg) fM rfl fun _ _ _ h=>h⟩;exact⟨(hf i b J).1,fun k c hc=>(hf i b J).2 k c (sub hc).2⟩
theorem qwy{l:List Value}{i:Nat}{v:Value}(h:l[i]? = some v):l.set i v=l:=by
 apply List.ext_getElem?;intro j;rw[List.getElem?_set];split;rename_i e;subst e;have:=(zG.1 h).1;simp only[this,if_true];exact h.symm;rfl
theorem Gh.nilvec{n0:Nat}{tm:List U}{O:Sg}(i:Nat)(e:TypeId)(sz:Nat)(dS:0<sz)(h0:n0<=O.nx)(hi:nth tm i=some .nils):Gh n0 tm O (tm.set i (.vl O.nx 0 0 0)) (newU O (.vec [] e sz 0)):=fun F x tv hx hr hf he=>by
 subst hx;have ho:=Xn hr e sz dS;rw[iQ]at hi;obtain⟨v,h1,h2⟩:=he.get hi;simp only[aD]at h2;subst h2;refine⟨⟨lM x.Y x.O.nx none,newU x.O (.vec [] e sz 0),x.s⟩,fun m w hf=>bP.refl hf,rfl,ho.h,ho.fr F hf,?_,ho.mo.ke.le h0⟩;have:=(ho.mo.ke.E he.bel he).set i (gu (x:=x) (e:=e) (sz:=sz) (o:=none) (by simp))
 rwa [qwy h1]at this
theorem bP.freeze{m:Nm}{s:S}{w:World}(h:gE m s w){i:Nat}{l:List Value}{e md e1:Nat}(hl:lk s.h i=some (.inl (l,e,md)))(oU:md=0/\e1=0\/∃sz,md=sz+2/\e1=sz+1):
  bP m s w m ⟨up s.h i (.inl (l,e1,1)),s.nx⟩ w:=by
 have old:∀j c,lk (up s.h i (.inl (l,e1,1))) j=some c->∃d,lk s.h j=some d/\(Own c=true->Own d=true)/\(j≠i->c=d):=fun j c hc=>by simp only[xL]at hc;by_cases mO:i=j;subst mO;simp only[if_true,hl,zM,zA]at hc;subst hc;exact⟨_,hl,fun h=>by simp[Own]at h,fun h=>absurd rfl h⟩;simp only[mO,if_false]at hc;exact⟨c,hc,id,fun _=>rfl⟩
 refine⟨aK.refl _ _,zF _,fun m' ha=>?_,?_,fun _ _ _=>rfl,zF _,rfl,rfl,rfl⟩;have hf:=h m' ha;refine⟨fun j c hc=>?_,fun j k c d hc hd D8 ho=>?_,fun j c hc=>?_⟩;by_cases mO:j=i;subst mO;simp only[xL,if_true,hl,zM,zA]at hc;subst hc;have hr:AU m' j l e w md:=hf.ok j _ hl;rcases oU with⟨rfl,rfl⟩|⟨sz,rfl,rfl⟩;obtain⟨h0,h1⟩:=hr;exact⟨_,_,_,h1,fun k v hk=>by simp[h0,m4,hk],fun n hn=>absurd hn (by simp)⟩;obtain⟨pr,rest,h1,h2,h3⟩:=hr;refine⟨_,_,_,h1,fun k v hk=>?_,fun n hn=>?_⟩;have aG:k<l.length:=(zG.1 hk).1;simp only[List.getElem?_toArray,zT,<-h2];rw[List.getElem?_append_right (by omega),Nat.add_sub_cancel_left,List.getElem?_append_left (by simpa using aG)];simp[m4,hk];have:n=sz:=(Nat.succ.inj hn).symm;subst this;exact Nat.le_of_add_right_le (Nat.le_of_eq h3);obtain⟨d,h1,_,h3⟩:=old j c hc;rw[h3 mO];exact hf.ok j d h1;obtain⟨c',h1,h2,_⟩:=old j c hc;obtain⟨d',h3,_,_⟩:=old k d hd;exact hf.inj j k c' d' h1 h3 D8 (h2 ho);obtain⟨d,h1,_⟩:=old j c hc;exact hf.bd j d h1;rintro b ⟨j,c,hc,ho,rfl⟩;obtain⟨d,h1,h2,_⟩:=old j c hc;exact .inl ⟨j,d,h1,h2 ho,rfl⟩
def cA(sz:Nat):Nat->List U->List (List U)
 |0,_=>[]|n+1,l=>l.take sz::cA sz n (l.drop sz)
theorem gk(sz n:Nat)(l:List U):(cA sz n l).length=n:=by
 induction n generalizing l with|zero=>rfl|succ n ih=>simp[cA,ih]
theorem gj{x:Cx}{sz:Nat}:∀(n:Nat){l:List U}{vs:List Value},cD x l vs->okL l=true->n*sz<=l.length->gU x sz (cA sz n l) vs
 |0,l,vs,h,hk,hl=>by simp[cA,gU]
 |n+1,l,vs,h,hk,hl=>by rw[Nat.succ_mul]at hl;simp only[cA,gU];refine⟨by simp;omega,LI hk _,?_,gj n (h.drop sz) (EL hk _) (by simp;omega)⟩;rw[G5]at h ⊢;intro i u hu;rw[List.getElem?_take]at hu;split at hu;exact h i u hu;cases hu
mutual
def fz(K:Nat)(b:B)(sz:Nat):U->U
 |.sl k off n c=>cond (Nat.beq k K) (match b with
  |.row l _=>if off+n*sz<=l.length then .isl false (cA sz n (l.drop off))else .sl k off n c|_=>.sl k off n c) (.sl k off n c)
 |.vl k st off n=>cond (Nat.beq k K) (match b with
  |.vec l _ hZ cT=>if cT=st/\(off+n)*hZ<=l.length then .isl false (cA hZ n (l.drop (off*hZ)))else .vl k st off n|_=>.vl k st off n) (.vl k st off n)
 |.ptr k st off=>cond (Nat.beq k K) (match b with
  |.row l _=>if st=0 then .iptr (l.drop off)else .ptr k st off|_=>.ptr k st off) (.ptr k st off)
 |.agg l=>.agg (lA K b sz l)|.tup l=>.tup (lA K b sz l)
 |.fn f a c=>.fn f (lA K b sz a) (lA K b sz c)|u=>u
def lA(K:Nat)(b:B)(sz:Nat):List U->List U
 |[]=>[]|u::l=>fz K b sz u::lA K b sz l
end
def fzB(K:Nat)(b:B)(sz:Nat):B->B
 |.row l e=>.row (lA K b sz l) e|.vec l e s st=>.vec (lA K b sz l) e s st
 |.map es cl=>.map (es.map fun e=>{ e with val:=fz K b sz e.val }) cl
def fzH(K:Nat)(b:B)(sz:Nat):List (Nat×B)->List (Nat×B)
 |[]=>[]|(k,c)::h=>cond (Nat.beq k K) (fzH K b sz h) ((k,fzB K b sz c)::fzH K b sz h)
theorem v_(K:Nat)(b:B)(sz:Nat)(h:List (Nat×B))(k:Nat):gt (fzH K b sz h) k=if k=K then none else(gt h k).map (fzB K b sz):=by
 induction h with|nil=>simp[fzH,gt]|cons p h ih=>obtain⟨j,c⟩:=p;simp only[fzH,beq_eq];by_cases hj:j=K;subst hj;simp only[yC,zC,ih,lG];by_cases hk:k=j;simp[hk];simp[hk,Ne.symm hk];simp only[hj,yB,zD,lG,ih];by_cases hk:j=k;subst hk;simp[hj];simp[hk]
theorem Z0(K:Nat)(b:B)(sz:Nat)(c:B):(fzB K b sz c).st=c.st:=by cases c<;>rfl
theorem YY(K:Nat)(b:B)(sz:Nat)(u:U)(h:okC u=true):okC (fz K b sz u)=true:=by
 cases u with
 |sl k off n c=>
  simp only[fz];rcases Nat.beq k K with _|_;rfl;simp only[zC];cases b with
  |row l e=>simp only;split<;>rfl|_=>rfl
 |vl k st off n=>
  simp only[fz];rcases Nat.beq k K with _|_;rfl;simp only[zC];cases b with
  |vec l e s st=>simp only;split<;>rfl|_=>rfl
 |ptr k st off=>
  simp only[fz];rcases Nat.beq k K with _|_;rfl;simp only[zC];cases b with
  |row l e=>simp only;split<;>rfl|_=>rfl
 |agg l=>simp[okC]at h|tup l=>simp[okC]at h
 |junk=>simp[okC]at h|_=>simp only[fz];first |exact h |rfl
theorem Wb(K:Nat)(b:B)(sz:Nat):∀l:List U,okL l=true->okL (lA K b sz l)=true
 |[],_=>rfl|u::l,h=>by simp only[okL]at h;obtain⟨h1,h2⟩:=JK h;simp[lA,okL,YY K b sz u h1,Wb K b sz l h2]
theorem V8(K:Nat)(b:B)(sz:Nat):∀l:List U,(lA K b sz l).length=l.length
 |[]=>rfl|u::l=>by simp[lA,V8 K b sz l]
section
variable{x y:Cx}{K:Nat}{b:B}{sz:Nat}(hg:gt x.O.h K=some b)(hb:nI x K b)(fM:Mo x.O.nx x y)
 (dX:∀i l e md,x.Y K=some i->lk x.s.h i=some (.inl (l,e,md))->(md=0/\lk y.s.h i=some (.inl (l,0,1)))\/∃s,md=s+2/\lk y.s.h i=some (.inl (l,s+1,1)))
include hg hb fM dX
mutual
theorem w_:(u:U)->(v:Value)->aD x u v->aD y (fz K b sz u) v
 |.sl k off n c,v,h=>by
  have keep:=fM.ke _ _ (aD.bel _ _ h) h;simp only[fz,beq_eq];by_cases hk:k=K;subst hk;simp only[yC,zC];cases b with
  |row l e=>simp only;split;rename_i aU;obtain⟨i,hi,rfl,hc,tF⟩:=LG (x:=x) (by simp[c7,hg,B.st]) h;obtain⟨k1,i',l',e1,e2,e3⟩:=hb;rw[hi]at e1;cases e1;have e4:cD y l l':=(fM.ke.E e3.bel e3).1;rcases dX i l' e 0 hi e2 with⟨_,hl⟩|⟨s,hs,_⟩;simp only[aD,gk];refine .inr ⟨i,off,c,rfl,(fun ht=>by cases ht),?_⟩;by_cases hn:n=0;exact .inl (List.eq_nil_of_length_eq_zero (by rw[gk,hn]));exact .inr ⟨l',0,sz,hl,gj n (e4.drop off) (EL k1 _) (by simp;omega),.inl ⟨hc,tF⟩⟩;omega;exact keep
  |_=>exact keep
  simp only[hk,yB,zD];exact keep
 |.vl k st off n,v,h=>by
  have keep:=fM.ke _ _ (aD.bel _ _ h) h;simp only[fz,beq_eq];by_cases hk:k=K;subst hk;simp only[yC,zC];cases b with
  |vec l e hZ cT=>
   simp only;split;rename_i aU;obtain⟨rfl,aU⟩:=aU;obtain⟨l0,e0,s0,g1,g2⟩:=V4 (x:=x) (by simp[c7,hg,B.st]) h;have:=hg.symm.trans g1;cases this;obtain⟨k1,k2,h3⟩:=hb;rcases h3 with⟨rfl,h4⟩|⟨i,l',e1,e2,e3⟩;rw[h4]at g2;obtain⟨rfl,rfl,o,rfl,ho⟩:=g2;simp only[aD,cA];rcases o with _|a;exact .inl ⟨trivial,.inl rfl⟩;exact .inr ⟨a.block,a.off,0,by obtain⟨q1,q2,q3⟩:=a;have:=ho _ rfl;simp only at this;subst this;rfl,by simp,.inl trivial⟩;rw[e1]at g2;have e4:cD y l l':=(fM.ke.E e3.bel e3).1;rcases dX i l' e _ e1 e2 with⟨h0,_⟩|⟨s,hs,hl⟩;omega;have:s=hZ:=by omega
   subst this;simp only[aD,gk];rcases g2 with⟨_,rfl,a,c,rfl,ha⟩|rfl;exact .inr ⟨a.block,a.off,c,by obtain⟨q1,q2,q3⟩:=a;simp only at ha;subst ha;rfl,by simp,.inl rfl⟩;refine .inr ⟨i,off*s,bS+off,rfl,by simp,?_⟩;rw[Nat.add_mul]at aU;exact .inr ⟨l',s+1,s,hl,gj n (e4.drop _) (EL k1 _) (by simp;omega),.inr ⟨by omega,rfl,k2,by simp[bN],by rw[<-e3.2];exact aU⟩⟩;exact keep
  |_=>exact keep
  simp only[hk,yB,zD];exact keep
 |.ptr k st off,v,h=>by
  have keep:=fM.ke _ _ (aD.bel _ _ h) h;simp only[fz,beq_eq];by_cases hk:k=K;subst hk;simp only[yC,zC];cases b with
  |row l e=>simp only;split;rename_i c8;subst c8;obtain⟨i,hi,rfl⟩:=VC (x:=x) (by simp[c7,hg,B.st]) h;obtain⟨k1,i',l',e1,e2,e3⟩:=hb;rw[hi]at e1;cases e1;have e4:cD y l l':=(fM.ke.E e3.bel e3).1;rcases dX i l' e 0 hi e2 with⟨_,hl⟩|⟨s,hs,_⟩;simp only[aD];exact⟨i,off,l',0,rfl,hl,e4.drop off,EL k1 _⟩;omega;exact keep
  |_=>exact keep
  simp only[hk,yB,zD];exact keep
 |.agg l,v,h=>by simp only[aD,fz]at*;obtain⟨vs,rfl,h1,h2,h3⟩:=h;exact⟨vs,rfl,Ca l vs h1,by rw[V8];exact h2,Wb K b sz l h3⟩
 |.tup l,v,h=>by simp only[aD,fz]at*;obtain⟨vs,rfl,h1,h2⟩:=h;exact⟨vs,rfl,Ca l vs h1,by rw[V8];exact h2⟩
 |.fn f p q,v,h=>by simp only[aD,fz]at*;obtain⟨va,vb,rfl,h1,h2,h3,h4⟩:=h;exact⟨va,vb,rfl,Ca p va h1,by rw[V8];exact h2,Ca q vb h3,by rw[V8];exact h4⟩
 |.junk,v,h=>by simp[fz,aD]
 |.bool _,v,h=>by simpa[fz,aD]using h
 |.int _ _,v,h=>by simpa[fz,aD]using h
 |.str _,v,h=>by simpa[fz,aD]using h
 |.nilp,v,h=>by simpa[fz,aD]using h
 |.nils,v,h=>by simpa[fz,aD]using h
 |.nilm,v,h=>by simpa[fz,aD]using h
 |.nilf,v,h=>by simpa[fz,aD]using h
 |.nili,v,h=>by simpa[fz,aD]using h
 |.map k,v,h=>by simp only[fz];exact fM.ke _ _ (aD.bel _ _ h) h
 |.iptr l,v,h=>by simp only[fz];exact fM.ke _ _ (aD.bel _ _ h) h
 |.isl t l,v,h=>by simp only[fz];exact fM.ke _ _ (aD.bel _ _ h) h
theorem Ca:(l:List U)->(vs:List Value)->cD x l vs->cD y (lA K b sz l) vs
 |[],vs,h=>by have _:=hg;have _:=hb;have _:=fM;have _:=dX;simp[lA,cD]
 |u::l,[],h=>by simp[cD]at h
 |u::l,v::vs,h=>by simp only[cD,lA]at*;exact⟨w_ u v h.1,Ca l vs h.2⟩
end
end
theorem Gh.freeze{n0:Nat}{tm:List U}{O:Sg}{K:Nat}{b:B}(sz:Nat)(hg:gt O.h K=some b)(hb:∀es cl,b≠.map es cl):Gh n0 tm O (lA K b sz tm) ⟨fzH K b sz O.h,O.nx⟩:=fun F x tv hx hr hf he=>by
 subst hx;obtain⟨hK,hB⟩:=hr.ok K b hg;have hs:∃s':S,(∀m w,gE m x.s w->bP m x.s w m s' w)/\(∀i c,lk x.s.h i=some c->x.Y K≠some i->lk s'.h i=some c)/\(∀i c,lk s'.h i=some c->i<s'.nx)/\
   (∀i l e md,x.Y K=some i->lk x.s.h i=some (.inl (l,e,md))->(md=0/\lk s'.h i=some (.inl (l,0,1)))\/∃s,md=s+2/\lk s'.h i=some (.inl (l,s+1,1))):=by
  have act:∀i l e md e1,x.Y K=some i->lk x.s.h i=some (.inl (l,e,md))->(md=0/\e1=0\/∃sz,md=sz+2/\e1=sz+1)->∃s':S,(∀m w,gE m x.s w->bP m x.s w m s' w)/\(∀i c,lk x.s.h i=some c->x.Y K≠some i->lk s'.h i=some c)/\(∀i c,lk s'.h i=some c->i<s'.nx)/\
   (∀i l e md,x.Y K=some i->lk x.s.h i=some (.inl (l,e,md))->(md=0/\lk s'.h i=some (.inl (l,0,1)))\/∃s,md=s+2/\lk s'.h i=some (.inl (l,s+1,1))):=by
   intro i l e md e1 hi hl oU;refine⟨⟨up x.s.h i (.inl (l,e1,1)),x.s.nx⟩,fun m w hf=>bP.freeze hf hl oU,fun j c hc cW=>?_,fun j c hc=>?_,fun j l' e' md' hj y3=>?_⟩;have:i≠j:=fun h=>cW (by rw[hi,h]);simp[xL,this,hc];simp only[xL]at hc;split at hc;rename_i h;subst h;exact hr.bd _ _ hl;exact hr.bd j c hc;rw[hi]at hj;cases hj;rw[hl]at y3;cases y3;rcases oU with⟨rfl,rfl⟩|⟨s,rfl,rfl⟩
   exact .inl ⟨rfl,by simp[xL,hl]⟩;exact .inr ⟨s,rfl,by simp[xL,hl]⟩
  cases b with
  |map es cl=>exact absurd rfl (hb es cl)|row l e=>obtain⟨_,i,l',e1,e2,_⟩:=hB;exact act i l' e 0 0 e1 e2 (.inl ⟨rfl,rfl⟩)
  |vec l e s st=>obtain⟨_,_,h3⟩:=hB;rcases h3 with⟨_,h4⟩|⟨i,l',e1,e2,_⟩;exact⟨x.s,fun m w hf=>bP.refl hf,fun i c hc _=>hc,hr.bd,fun i l e md hi=>by rw[h4]at hi;cases hi⟩;exact act i l' e (s+2) (s+1) e1 e2 (.inr ⟨s,rfl,rfl⟩)
 obtain⟨s',a1,a2,a3,a4⟩:=hs;have sub:∀{k c},gt (fzH K b sz x.O.h) k=some c->k≠K/\∃d,gt x.O.h k=some d/\c=fzB K b sz d:=fun{k c} h=>by rw[v_]at h;split at h;cases h;rename_i hk;rcases hd:gt x.O.h k with _|d;simp[hd]at h;simp[hd]at h;exact⟨hk,d,rfl,h.symm⟩
 have fM:Mo x.O.nx x ⟨x.Y,⟨fzH K b sz x.O.h,x.O.nx⟩,s'⟩:=by refine⟨fun k _ h2=>⟨h2,fun c hc=>?_⟩,fun i row e hl=>a2 i _ hl fun h=>hB.not1 h hl⟩;obtain⟨_,d,h1,rfl⟩:=sub hc;refine⟨d,h1,by rw[Z0];exact zF _,fun _=>⟨rfl,fun l e s st h=>?_⟩⟩;subst h;exact⟨_,rfl⟩
 have Ra:=fun u v h=>w_ (y:=⟨x.Y,⟨fzH K b sz x.O.h,x.O.nx⟩,s'⟩) (sz:=sz) hg hB fM a4 u v h;have YC:∀{l:List U}{vs:List Value},bB x l vs->bB ⟨x.Y,⟨fzH K b sz x.O.h,x.O.nx⟩,s'⟩ (lA K b sz l) vs:=fun{l vs} h=>⟨Ca hg hB fM a4 l vs h.1,by rw[V8];exact h.2⟩;refine⟨⟨x.Y,⟨fzH K b sz x.O.h,x.O.nx⟩,s'⟩,a1,rfl,⟨fun k c hc=>?_,fun k k' c c' i h1 h2=>?_,a3⟩,fun i c hc=>?_,YC he,fun u v _ h=>fM.ke u v (aD.bel _ _ h) h⟩;obtain⟨hk,d,h1,rfl⟩:=sub hc;obtain⟨h2,h3⟩:=hr.ok k d h1;refine⟨h2,?_⟩;have cW:∀i,x.Y k=some i->x.Y K≠some i:=fun i h h'=>hk (hr.inj k K d b i h1 hg h h');cases d with
 |row l e=>obtain⟨k1,i,l',e1,e2,e3⟩:=h3;exact⟨Wb _ _ _ _ k1,i,l',e1,a2 i _ e2 (cW i e1),YC e3⟩
 |vec l e s st=>obtain⟨k1,k2,h3⟩:=h3;refine⟨Wb _ _ _ _ k1,k2,?_⟩;rcases h3 with⟨rfl,h4⟩|⟨i,l',e1,e2,e3⟩;exact .inl ⟨rfl,h4⟩;exact .inr ⟨i,l',e1,a2 i _ e2 (cW i e1),YC e3⟩
 |map es cl=>obtain⟨i,es',e1,e2,e3⟩:=h3;refine⟨i,es',e1,a2 i _ e2 (cW i e1),by simp[e3.1],fun j e he=>?_⟩;rw[List.getElem?_map]at he;rcases hj:es[j]? with _|e0;simp[hj]at he;simp[hj]at he;subst he;obtain⟨v,q1,q2,q3,q4⟩:=e3.2 j e0 hj;exact⟨v,q1,fM.ke _ _ (aD.bel _ _ q2) q2,Ra _ _ q3,q4⟩
 obtain⟨_,d,g1,_⟩:=sub h1;obtain⟨_,d',g2,_⟩:=sub h2;exact hr.inj k k' d d' i g1 g2;obtain⟨h1,h2⟩:=hf i c hc;refine⟨a2 i c h1 (h2 K b hg),fun k d hd=>?_⟩;obtain⟨_,d',g1,_⟩:=sub hd;exact h2 k d' g1
end Go.Vx
