import Derived.CallsIn
import Derived.OrdersIn
import Derived.Test.YtldlchbgolpkaaaGreatP6
set_option linter.all false
namespace Go.Vx
open Go Go.Rx
def dZ(tm:I U)(d:V Tmp)(u:U):I U:=match d with
 |none=>tm|some d=>tm.set d u
variable{x:Cx}
variable{tm:I U}
def Pc{tv:I M}(h:bF x tm tv){u:U}{v:M}(hu:aD x u v)(d:V Tmp):bF x (dZ tm d u) (NO tv d v):=by rcases d with _|d;exact h;exact h.set d hu
structure St(F:Nat->lU->Prop)(x:Cx)(tm:I U)(tv:I M)(m:Nm)(w:World)(a:Act):Prop where
 h:kM x
 fr:Fr F x
 e:bF x tm tv
 fits:iA m x.s w
 act:xJ m x.s.nx tv a
def bE(P:Program)(f:FuncId)(args:I U)(O:Sg)(Q:U->Sg->Prop):Prop :=
 ∀F x vs m w bI,x.O=O->kM x->Fr F x->bF x args vs->iA m x.s w->nZ m x.s.nx vs bI->
  Calls P f bI.toArray w fun e w₁=>∃y aH u v cv,e=.returned cv/\Q u y.O/\bQ m x.s w aH y.s w₁/\fI aH y.s.nx v cv/\kM y/\Fr F y/\aD y u v/\Ke x.O.nx x y/\x.O.nx<=y.O.nx
def Mo.nx{x y:Cx}(h:Mo x.O.nx x y):x.O.nx<=y.O.nx:=by cases hn:x.O.nx with|zero=>omega|succ n=>have:=(h.ref n (by omega) (by omega)).1;omega
def TW(P:Program):Gp P nc:=fun f args s v bJ h=>by simp[nc]at h
def P1(a:Act)(d:V Tmp)(v:M):(a.put d v).defers=a.defers:=by cases d<;>rfl
section
variable{P:Program}{T:Tb}(hT:lP P T){F:Nat->lU->Prop}{x:Cx}{tm:I U}{tv:I M}{m:Nm}{w:World}{a:Act}
include hT
variable{next:Act->World->Prop}
variable{Q:Exit->Act->World->Prop}
def St.op(st:St F x tm tv m w a)(o:Oper){u:U}{O':Sg}(h:bM T x.O tm o.op=some (u,O'))
  (hn:∀y cZ aH w₁ bB,y.O=O'->St F y (dZ tm o.dst u) cZ aH w₁ bB->bQ m x.s w aH y.s w₁->Ke x.O.nx x y->x.O.nx<=y.O.nx->bB.defers=a.defers->next bB w₁):o.wp P a w next Q:=by have⟨v,y,h1,h2,h3,h4⟩:=Ah st.h st.e h;refine TV hT (TW P) st.fits st.act o h1 fun aH w₁ cv aS hO=>?_;exact hn y (NO tv o.dst v) aH w₁ _ h2 ⟨h4.h,h4.fr F st.fr,Pc (h4.mo.ke.E st.e.bel st.e) h3 _,aS.fits,(st.act.ext aS.agree aS.nx).put hO o.dst⟩ aS h4.mo.ke h4.mo.nx (P1 _ _ _)
def St.call(st:St F x tm tv m w a)(o:Oper){f:FuncId}{args:I U}(h:kH T tm o.op=some (f,args)){R:U->Sg->Prop}(kI:bE P f args x.O R)
  (hn:∀y u cZ aH w₁ bB,R u y.O->St F y (dZ tm o.dst u) cZ aH w₁ bB->bQ m x.s w aH y.s w₁->Ke x.O.nx x y->x.O.nx<=y.O.nx->bB.defers=a.defers->next bB w₁):o.wp P a w next Q:=by have⟨vs,h1,h2⟩:=qyi st.e h;have⟨bI,g1,g2⟩:=qut hT st.act o w h1;unfold Oper.wp;rw[g1];show Calls P f _ w _;refine(kI F x vs m w bI rfl st.h st.fr h2 st.fits g2).mono ?_;rintro e w₁ ⟨y,aH,u,v,cv,rfl,hR,aS,hO,hh,mJ,DH,eR,jT⟩;exact hn y u (NO tv o.dst v) aH w₁ _ hR ⟨hh,mJ,Pc (eR.E st.e.bel st.e) DH _,aS.fits,(st.act.ext aS.agree aS.nx).put hO o.dst⟩ aS eR jT (P1 _ _ _)
def St.nilq(st:St F x tm tv m w a)(o:Oper){t e ty:X}{xo yo:Operand}{b:Bool}{l:I (I U)}(ho:o.op=.binOp .eql t xo yo ty)(hd:T.und t=some (.slice e))(hx:c9 tm xo=some (.isl b l))(hy:c9 tm yo=some .nils)
  (hn:∀(z:Bool) y cZ aH w₁ bB,(z=true->l=[])->y.O=x.O->St F y (dZ tm o.dst (.bool z)) cZ aH w₁ bB->bQ m x.s w aH y.s w₁->Ke x.O.nx x y->x.O.nx<=y.O.nx->bB.defers=a.defers->next bB w₁):o.wp P a w next Q:=by
 have⟨vx,ex,rx⟩:=jH st.e hx;have⟨vy,ey,ry⟩:=jH st.e hy;simp[aD]at rx ry;subst ry;have key:∃z:Bool,(z=true->l=[])/\AU T nc tv x.s o.op=some (.bool z,x.s):=by rw[ho];rcases rx with⟨hl,rfl |⟨r,rfl⟩⟩|⟨i,off,c,rfl,_⟩;exact⟨true,fun _=>hl,by simp[AU,iZ,ex,ey,qK,wJ,eqv,hd]⟩;exact⟨false,by simp,by simp[AU,iZ,ex,ey,qK,wJ,eqv,hd]⟩;exact⟨false,by simp,by simp[AU,iZ,ex,ey,qK,wJ,eqv,hd]⟩
 have⟨z,hz,pY⟩:=key;refine TV hT (TW P) st.fits st.act o pY fun aH w₁ cv aS hO=>?_;exact hn z x (NO tv o.dst (.bool z)) aH w₁ _ hz rfl ⟨st.h,st.fr,Pc st.e (by simp[aD]) _,aS.fits,(st.act.ext aS.agree aS.nx).put hO o.dst⟩ aS (Ke.refl _ _) (zF _) (P1 _ _ _)
omit hT in
def St.skip(st:St F x tm tv m w a)(d:V Tmp):St F x (dZ tm d (.tup [])) (NO tv d undef) m w (a.put d undef):=
 ⟨st.h,st.fr,Pc st.e (by simp[aD];exact⟨[],rfl,by simp[cU],rfl⟩) _,st.fits,st.act.put (BV fun _=>by simp[undef,aI,aJ]) d⟩
end
def cM(a9:I Oper)(tm:I U)(o:Oper):V Bool :=
 match o.guard with
 |none=>some true|some (j,want)=>match BP a9 j with
  |none=>some false|some d=>match nth tm d with
   |some (.bool b)=>some (b==want)|some (.tup _)=>some false
   |_=>none
def vQ{a9:I Oper}{tv:I M}(ht:bF x tm tv){o:Oper}{b:Bool}(h:cM a9 tm o=some b):Oy a9 tv o=b:=by
 unfold cM at h;unfold Oy;rcases hg:o.guard with _|g;simp[hg]at h;simp[h];have⟨j,want⟩:=g;simp[hg]at h ⊢;rcases hd:BP a9 j with _|d;simp[hd]at h;simp[h];simp[hd,jA]at h ⊢;rcases hu:tm[d]? with _|u;simp[hu]at h;have⟨v,h1,h2⟩:=ht.get hu;rw[h1];cases u with
 |bool c=>simp[hu,zA]at h;simp[aD]at h2;subst h2;simp[h]|tup l=>simp[hu,zA]at h;simp[aD]at h2;obtain⟨vs,rfl,_⟩:=h2;simp[h]
 |_=>simp[hu]at h
def pB(ro:V Nat):Fence:={ Fence.wide with round:=ro }
variable{ro:V Nat}
variable{n:Nat}
variable{P:Program}
variable{w:World}
def Eo{f:FuncId}{args:Array M}{R:Ending->World->Prop}(h:Calls P f args w R):CallsIn (pB ro) n P f args w R:=(callsIn_wide (n:=n)).2 h
def Oa{row:String}{args:Array M}{R:M->World->Prop}(h:Rows P row args w R):RowsIn (pB ro) n P row args w R:=fun c cs _=>by
 have⟨v,w',r,s⟩:=h c cs;exact⟨v,w',r,(stepsIn_wide (P:=P)).2 s⟩
def z3e:(pB ro).depth.isSome=true->1<=n:=fun h=>by simp[pB,Fence.wide]at h
def AO{o:Oper}{a:Act}{next:Act->World->Prop}{Q:Exit->Act->World->Prop}(ho:∀c,o.op≠.defer c)(h:o.wp P a w next Q):o.wpIn (pB ro) n P a w next Q:=by refine⟨fun _ _=>trivial,?_⟩;have e:o.semAt (pB ro).round a.eval=execOp a.eval o:=Oper.semAt_eq _ _ _ ho;rw[e];revert h;unfold Oper.wp;generalize (execOp a.eval o).run P w=r;intro h;unfold Oper.upon at h;split at h;exact h;exact h;exact h;exact⟨z3e,Eo h⟩;exact⟨z3e,Oa h⟩;exact h;exact h.elim
def OE{T:Tb}{O:Sg}{op:Op}{r:U×Sg}(h:bM T O tm op=some r):∀c,op≠.defer c:=by rintro c rfl;simp[bM,gQ,nI,nX]at h
def Px{T:Tb}{op:Op}{r:FuncId×I U}(h:kH T tm op=some r):∀c,op≠.defer c:=by rintro c rfl;simp[kH]at h
structure PG where
 prog:Program
 nb:Nat
 G:Cx->Nm->World->Prop
 ro:V Nat->Prop
 mks:Bool
 st:∀{x y:Cx}{m m':Nm}{w w':World},G x m w->iA m x.s w->bQ m x.s w m' y.s w'->Ke nb x y->G y m' w'
abbrev PG.of(P:Program):PG:=⟨P,0,fun _ _ _=>True,fun _=>True,false,fun _ _ _ _=>trivial⟩
structure W7(C:PG)(n0:Nat)(x:Cx)(m:Nm)(w:World):Prop where
 nb:C.nb<=n0
 g:C.G x m w
variable{m:Nm}
variable{m':Nm}
variable{w':World}
def W7.adv{C:PG}{n0:Nat}{y:Cx}(h:W7 C n0 x m w)(hf:iA m x.s w)(ha:bQ m x.s w m' y.s w')(hk:Ke n0 x y):W7 C n0 y m' w':=⟨h.nb,C.st h.g hf ha (hk.le h.nb)⟩
def zz(b0:Nat)(w:World)(ds:I Deferred):Prop:=b0<=w.heap.size/\∃bs:I Nat,bs.Nodup/\ds=bs.map (fun b=>{ target:=.collected b,args:=#[] })/\∀b∈bs,b0<=b/\w.heap[b]? = some (.deferred (some []))
variable{s:S}
def z8f(hf:iA m s w){b:Nat}{o:Obj}(h:w.heap[b]? = some o)(ho:∀c e f,o≠.cells c e f)(ho2:∀q c,o≠.map q c):¬ RC m s b:=by
 rintro⟨i,c,h1,h2,rfl⟩;have:=hf.fits.ok i c h1;rcases c with⟨l,e,md⟩|⟨es,cl⟩;simp[yG]at this
 match md,this with
 |0,hr=>simp[D5]at hr;rw[hr.2]at h;exact ho _ _ _ (Option.some.inj h).symm|1,hr=>simp[Own]at h2
 |n+2,hr=>simp[D5]at hr;have⟨_,_,hr,_⟩:=hr;rw[hr]at h;exact ho _ _ _ (Option.some.inj h).symm
 simp[yG]at this;rw[this]at h;exact ho2 _ _ (Option.some.inj h).symm
def zc4{s':S}(hf:iA m s w)(ha:bQ m s w m' s' w'){b:Nat}{o:Obj}(h:w.heap[b]? = some o)(ho:∀c e f,o≠.cells c e f)(ho2:∀q c,o≠.map q c):w'.heap[b]? = some o:=by rw[ha.same b (Array.getElem?_eq_some_iff.1 h).1 (z8f hf h ho ho2)];exact h
def zz.adv{b0:Nat}{s':S}{ds:I Deferred}(h:zz b0 w ds)(hf:iA m s w)(ha:bQ m s w m' s' w'):zz b0 w' ds:=by have⟨h0,bs,h1,h2,h3⟩:=h;exact⟨Nat.le_trans h0 ha.size,bs,h1,h2,fun b hb=>⟨(h3 b hb).1,zc4 hf ha (h3 b hb).2 (by simp) (by simp)⟩⟩
structure DR(C:PG)(b0:Nat)(ds:I Deferred)(w':World)(ds':I Deferred):Prop where
 eq:C.mks=false->ds'=ds
 ok:C.mks=true->zz b0 w' ds'
def DR.trans{C:PG}{b0:Nat}{ds LG ds2:I Deferred}{w1 w2:World}(h:DR C b0 ds w1 LG)(g:DR C b0 LG w2 ds2):DR C b0 ds w2 ds2:=⟨fun hk=>(g.eq hk).trans (h.eq hk),g.ok⟩
def DR.here{C:PG}{b0:Nat}{ds LG:I Deferred}{w1:World}(h:DR C b0 ds w1 LG):DR C b0 LG w1 LG:=⟨fun _=>rfl,h.ok⟩
def DR.adv{C:PG}{b0:Nat}{ds LG:I Deferred}{m:Nm}{s:S}{w:World}{m':Nm}{s':S}{w':World}(h:DR C b0 ds w LG)(hf:iA m s w)(ha:bQ m s w m' s' w'):DR C b0 ds w' LG:=⟨h.eq,fun hk=>(h.ok hk).adv hf ha⟩
def IX(C:PG)(O:Sg)(tm:I U)(o:Oper)(R:U->Sg->Prop):Prop :=
 ∀(F:Nat->lU->Prop)(x:Cx)(tv:I M)(m:Nm)(w:World)(a:Act)(next:Act->World->Prop)(Q:Exit->Act->World->Prop),x.O=O->St F x tm tv m w a->W7 C x.O.nx x m w-> (∀u y cZ aH w₁ bB,R u y.O->St F y (dZ tm o.dst u) cZ aH w₁ bB->bQ m x.s w aH y.s w₁->Ke x.O.nx x y->x.O.nx<=y.O.nx->bB.defers=a.defers->next bB w₁)->∀ro,C.ro ro->o.wpIn (pB ro) 0 C.prog a w next Q
def RU(C:PG)(T:Tb)(a9:I Oper):I Oper->I U->Sg->(I U->Sg->Prop)->Prop
 |[],tm,O,K=>K tm O|o::r,tm,O,K=>(cM a9 tm o=some true/\∃u O',bM T O tm o.op=some (u,O')/\RU C T a9 r (dZ tm o.dst u) O' K)\/ (cM a9 tm o=some true/\∃f args R,kH T tm o.op=some (f,args)/\bE C.prog f args O R/\∀u O',R u O'->RU C T a9 r (dZ tm o.dst u) O' K)\/ (cM a9 tm o=some false/\RU C T a9 r (dZ tm o.dst (.tup [])) O K)\/ (cM a9 tm o=some true/\∃t xo yo ty e b l,o.op=.binOp .eql t xo yo ty/\T.und t=some (.slice e)/\c9 tm xo=some (.isl b l)/\c9 tm yo=some .nils/\∀z:Bool,(z=true->l=[])->RU C T a9 r (dZ tm o.dst (.bool z)) O K)\/ (cM a9 tm o=some true/\∃R,IX C O tm o R/\∀u O',R u O'->RU C T a9 r (dZ tm o.dst u) O' K)
def G'(C:PG)(n0:Nat)(F:Nat->lU->Prop)(x:Cx)(m:Nm)(w:World)(ds:I Deferred)(b0:Nat)(Q:Exit->I U->Sg->Prop):Exit->Act->World->Prop:=fun e a' w'=>
 ∃y tm' cZ m',Q e tm' y.O/\St F y tm' cZ m' w' a'/\bQ m x.s w m' y.s w'/\Ke n0 x y/\n0<=y.O.nx/\DR C b0 ds w' a'.defers
def WPU(C:PG)(n0:Nat)(c:Code)(tm:I U)(O:Sg)(Q:Exit->I U->Sg->Prop):Prop :=
 n0<=O.nx->∀F x tv m w a b0,x.O=O->St F x tm tv m w a->W7 C n0 x m w->DR C b0 a.defers w a.defers->∀ro,C.ro ro->c.wpIn (pB ro) 0 C.prog (G' C n0 F x m w a.defers b0 Q) a w
section
variable{C:PG}{n0:Nat}{Q:Exit->I U->Sg->Prop}{tm:I U}{O:Sg}
def EL(K:I U->Sg->Prop)(Q:Exit->I U->Sg->Prop):Exit->I U->Sg->Prop
 |.normal,tm,s=>K tm s|e,tm,s=>Q e tm s
def WPU.seq{p q:Code}(h:WPU C n0 p tm O (EL (fun tm O=>WPU C n0 q tm O Q) Q)):WPU C n0 (.seq p q) tm O Q:=fun hn F x tv m w a b0 hx st hG hd ro jI=>by
 refine wpIn_seq (wpIn_mono (h hn F x tv m w a b0 hx st hG hd ro jI) ?_);rintro e a' w' ⟨y,tm',cZ,m',h1,h2,h3,h4,h5,h6⟩;cases e with
 |normal=>apply wpIn_mono (h1 h5 F y cZ m' w' a' b0 rfl h2 (hG.adv st.fits h3 h4) h6.here ro jI);rintro e a'' w'' ⟨z,jO,tv'',m'',g1,g2,g3,g4,g5,g6⟩;exact⟨z,jO,tv'',m'',g1,g2,h3.trans g3,h4.trans g4,g5,h6.trans g6⟩
 |_=>exact⟨y,tm',cZ,m',h1,h2,h3,h4,h5,h6⟩
def WPU.skip(h:Q .normal tm O):WPU C n0 .skip tm O Q:=fun hn F x tv m w a b0 hx st hG hd ro jI=>wpIn_skip ⟨x,tm,tv,m,hx ▸ h,st,bQ.refl st.fits,Ke.refl _ _,hx ▸ hn,hd⟩
def WPU.ret(h:Q .ret tm O):WPU C n0 .ret tm O Q:=fun hn F x tv m w a b0 hx st hG hd ro jI=>wpIn_ret ⟨x,tm,tv,m,hx ▸ h,st,bQ.refl st.fits,Ke.refl _ _,hx ▸ hn,hd⟩
def WPU.exit{id:Nat}(h:Q (.exit id) tm O):WPU C n0 (.exit id) tm O Q:=fun hn F x tv m w a b0 hx st hG hd ro jI=>wpIn_exit ⟨x,tm,tv,m,hx ▸ h,st,bQ.refl st.fits,Ke.refl _ _,hx ▸ hn,hd⟩
def WPU.cond{c:Operand}{p q:Code}{t:Bool}(hc:c9 tm c=some (.bool t))(h1:t=true->WPU C n0 p tm O Q)(h2:t=false->WPU C n0 q tm O Q):WPU C n0 (.cond c p q) tm O Q:=fun hn F x tv m w a b0 hx st hG hd ro jI=>by
 have⟨v,e1,e2⟩:=jH st.e hc;simp[aD]at e2;subst e2;have he:=(st.act.evalO e1).at;simp[aI]at he;rcases t with _|_;exact wpIn_cond_false he.symm (h2 rfl hn F x tv m w a b0 hx st hG hd ro jI);exact wpIn_cond_true he.symm (h1 rfl hn F x tv m w a b0 hx st hG hd ro jI)
def AS(id:Nat)(Q:Exit->I U->Sg->Prop):Exit->I U->Sg->Prop
 |.exit id',tm,s=>if id'=id then Q .normal tm s else Q (.exit id') tm s|e,tm,s=>Q e tm s
def aV{id:Nat}{c:Code}(h:WPU C n0 c tm O (AS id Q)):WPU C n0 (.block id c) tm O Q:=fun hn F x tv m w a b0 hx st hG hd ro jI=>by
 refine wpIn_block (wpIn_mono (h hn F x tv m w a b0 hx st hG hd ro jI) ?_);rintro e a' w' ⟨y,tm',cZ,m',h1,h2⟩;cases e with
 |exit id'=>simp[Exit.inBlock];simp[AS]at h1;by_cases KH:id'=id;simp[KH,if_true]at h1 ⊢;exact⟨y,tm',cZ,m',h1,h2⟩;simp[KH,if_false]at h1 ⊢;exact⟨y,tm',cZ,m',h1,h2⟩|_=>exact⟨y,tm',cZ,m',h1,h2⟩
def WPU.loop{c:Code}(v08:Nat->I U->Sg->Prop)(n:Nat)(h₀:v08 n tm O)(round:∀n tm O,v08 n tm O->WPU C n0 c tm O (EL (fun tm' O'=>∃n',n'<n/\v08 n' tm' O') Q)):WPU C n0 (.loop c) tm O Q:=by
 intro hn F x tv m w a b0 hx st hG hd ro jI b k cs QB hb hr;have key:∀n tm O,v08 n tm O->n0<=O.nx->∀x tv m w a,x.O=O->St F x tm tv m w a->W7 C n0 x m w->DR C b0 a.defers w a.defers->∃e a' w',G' C n0 F x m w a.defers b0 Q e a' w'/\ArrivesIn (Machine.fenced C.prog (pB ro)) C.prog (lone (b.atR a (.code c :: .inLoop c::k)) cs w) b k cs e a' w':=by
  intro n;induction n using Nat.strongRecOn with
  |_ n ih=>
   intro tm O hI hn x tv m w a hx st hG hd;obtain⟨e,bB,w₁,⟨y,vJ,vI,aH,hq,bZ,aS,eR,jT,j6⟩,nR⟩:=round n tm O hI hn F x tv m w a b0 hx st hG hd ro jI b (.inLoop c::k) cs QB hb hr;cases e with
   |normal=>have⟨n',aE,hI'⟩:=hq;obtain⟨e₂,a₂,oA,⟨z,No,Nn,FA,Wi,Bo,QE,Ce,Bu,Co⟩,QC⟩:=ih n' aE vJ y.O hI' jT y vI aH w₁ bB rfl bZ (hG.adv st.fits aS eR) j6.here;exact⟨e₂,a₂,oA,⟨z,No,Nn,FA,Wi,Bo,aS.trans QE,eR.trans Ce,Bu,j6.trans Co⟩,.of_steps (StepsIn.trans nR (.one (fenced_calm hb hr rfl) stepR_inLoop)) QC⟩
   |exit id=>exact⟨_,bB,w₁,⟨y,vJ,vI,aH,hq,bZ,aS,eR,jT,j6⟩,.pass (x:=.inLoop c) rfl (fun _ _=>.inl (by simp)) nR⟩|goto l=>exact⟨_,bB,w₁,⟨y,vJ,vI,aH,hq,bZ,aS,eR,jT,j6⟩,.pass (x:=.inLoop c) rfl (fun _ _=>.inl (by simp)) nR⟩
   |ret=>exact⟨_,bB,w₁,⟨y,vJ,vI,aH,hq,bZ,aS,eR,jT,j6⟩,.pass (x:=.inLoop c) rfl (fun _ _=>.inl (by simp)) nR⟩|panic ch=>exact⟨_,bB,w₁,⟨y,vJ,vI,aH,hq,bZ,aS,eR,jT,j6⟩,.pass (x:=.inLoop c) rfl (fun _ _=>.inl (by simp)) nR⟩
   |outgrown=>exact⟨_,bB,w₁,⟨y,vJ,vI,aH,hq,bZ,aS,eR,jT,j6⟩,.pass (x:=.inLoop c) rfl (fun _ _=>.inl (by simp)) nR⟩
 have⟨e,a',w',hq,nR⟩:=key n tm O h₀ hn x tv m w a hx st hG hd;exact⟨e,a',w',hq,.of_steps (.one (fenced_calm hb hr rfl) stepR_loop) nR⟩
def Gh(n0:Nat)(tm:I U)(O:Sg)(tm':I U)(O':Sg):Prop :=
 ∀F x tv,x.O=O->kM x->Fr F x->bF x tm tv->∃y,(∀m w,iA m x.s w->bQ m x.s w m y.s w)/\y.O=O'/\kM y/\Fr F y/\bF y tm' tv/\Ke n0 x y
def Gh.refl(n0:Nat)(tm:I U)(O:Sg):Gh n0 tm O tm O:=fun F x tv hx h hf he=>⟨x,fun m w hf=>bQ.refl hf,hx,h,hf,he,Ke.refl _ _⟩
def Gh.trans{tm' jO:I U}{O' c6:Sg}(h:Gh n0 tm O tm' O')(h':Gh n0 tm' O' jO c6):Gh n0 tm O jO c6:=fun F x tv hx hh hf he=>by
 have⟨y,h1,h2,h3,h4,h5,h6⟩:=h F x tv hx hh hf he;have⟨z,g1,g2,g3,g4,g5,g6⟩:=h' F y tv h2 h3 h4 h5;exact⟨z,fun m w hf=>(h1 m w hf).trans (g1 m w (h1 m w hf).fits),g2,g3,g4,g5,h6.trans g6⟩
def cJ{c:Code}{tm':I U}{O':Sg}(h:Gh n0 tm O tm' O')(yU:n0<=O'.nx)(hw:WPU C n0 c tm' O' Q):WPU C n0 c tm O Q:=fun hn F x tv m w a b0 hx st hG hd ro jI=>by
 have⟨y,h1,h2,h3,h4,h5,h6⟩:=h F x tv hx st.h st.fr st.e;have aS:=h1 m w st.fits;apply wpIn_mono (hw yU F y tv m w a b0 h2 ⟨h3,h4,h5,aS.fits,st.act.ext aS.agree aS.nx⟩ (hG.adv st.fits aS h6) hd ro jI);rintro e a' w' ⟨z,jO,tv'',m'',g1,g2,g3,g4,g5,g6⟩;exact⟨z,jO,tv'',m'',g1,g2,aS.trans g3,h6.trans g4,g5,g6⟩
def WPU.after{c:Code}{Q':Exit->I U->Sg->Prop}(h:WPU C n0 c tm O Q')(hq:∀e tm O,n0<=O.nx->Q' e tm O->∃tm' O',n0<=O'.nx/\Gh n0 tm O tm' O'/\Q e tm' O'):WPU C n0 c tm O Q:=fun hn F x tv m w a b0 hx st hG hd ro jI=>by
 apply wpIn_mono (h hn F x tv m w a b0 hx st hG hd ro jI);rintro e a' w' ⟨y,tm',cZ,m',h1,h2,h3,h4,h5,h6⟩;have⟨jO,c6,q1,q2,q3⟩:=hq e tm' y.O h5 h1;have⟨z,g1,g2,g3,g4,g5,g6⟩:=q2 F y cZ rfl h2.h h2.fr h2.e;have aS:=g1 m' w' h2.fits;exact⟨z,jO,cZ,m',g2 ▸ q3,⟨g3,g4,g5,aS.fits,h2.act.ext aS.agree aS.nx⟩,h3.trans aS,h4.trans g6,g2 ▸ q1,h6⟩
variable{T:Tb}(hT:lP C.prog T)
include hT
def Fl(a9:Array Oper)(E:Exit->Act->World->Prop){F:Nat->lU->Prop}{x0:Cx}{m0:Nm}{w0:World}{df:I Deferred}(K:I U->Sg->Prop)(CL:W7 C n0 x0 m0 w0)(yZ:iA m0 x0.s w0)(ro:V Nat)(jI:C.ro ro):
  ∀(rest:I Oper)(i:Nat),a9.toList.drop i=rest->∀(x:Cx)(tm:I U)(tv:I M)(m:Nm)(w:World)(a:Act),St F x tm tv m w a->a.defers=df->bQ m0 x0.s w0 m x.s w->Ke n0 x0 x->n0<=x.O.nx->RU C T a9.toList rest tm x.O K-> (∀y tm' cZ m' w' a',K tm' y.O->St F y tm' cZ m' w' a'->bQ m0 x0.s w0 m' y.s w'->Ke n0 x0 y->n0<=y.O.nx->a'.defers=df->E .normal a' w')->wpOpsIn (pB ro) 0 C.prog a9 E (List.range' i rest.length) a w
 |[],i,_,x,tm,tv,m,w,a,st,hd,aS,eR,hn,h,hQ=>by simp[zS,List.range'_zero,wpOpsIn];exact hQ x tm tv m w a h st aS eR hn hd
 |o::rest,i,HG,x,tm,tv,m,w,a,st,hd,aS,eR,hn,h,hQ=>by
  have ho:a9[i]? = some o:=by have:=congrArg (fun l=>l[0]?) HG;simpa using this
  have bG:a9.toList.drop (i+1)=rest:=by have:=congrArg List.tail HG;simpa using this
  simp[zO,List.range'_succ,wpOpsIn,ho,Qb (st.act m (aN.refl _ _)) a9 o];simp only[RU]at h;rcases h with⟨hw,u,O',h1,h2⟩|⟨hw,f,args,R,h1,h2,h3⟩|⟨hw,h1⟩|⟨hw,t,xo,yo,ty,e,b,l,h1,h2,h3,h4,h5⟩|⟨hw,R,h1,h2⟩;rw[vQ st.e hw];simp[if_true];refine AO (OE h1) (st.op hT o h1 fun y cZ aH w₁ bB e1 cT bO d8 jT j6=>?_);exact Fl a9 E K CL yZ ro jI rest (i+1) bG y _ cZ aH w₁ bB cT (j6.trans hd) (aS.trans bO) (eR.trans (d8.le hn)) (by omega) (e1 ▸ h2) hQ;rw[vQ st.e hw];simp[if_true];refine AO (Px h1) (st.call hT o h1 h2 fun y u cZ aH w₁ bB hR cT bO d8 jT j6=>?_);exact Fl a9 E K CL yZ ro jI rest (i+1) bG y _ cZ aH w₁ bB cT (j6.trans hd) (aS.trans bO) (eR.trans (d8.le hn)) (by omega) (h3 u y.O hR) hQ;rw[vQ st.e hw];simp[Bool.false_eq_true,if_false];exact⟨fun _ _=>trivial,Fl a9 E K CL yZ ro jI rest (i+1) bG x _ _ m w _ (st.skip o.dst) ((P1 _ _ _).trans hd) aS eR hn h1 hQ⟩;rw[vQ st.e hw];simp[if_true];refine AO (by rw[h1];intro c hc;cases hc) (st.nilq hT o h1 h2 h3 h4 fun z y cZ aH w₁ bB hz e1 cT bO d8 jT j6=>?_);exact Fl a9 E K CL yZ ro jI rest (i+1) bG y _ cZ aH w₁ bB cT (j6.trans hd) (aS.trans bO) (eR.trans (d8.le hn)) (by omega) (e1 ▸ h5 z hz) hQ;rw[vQ st.e hw];simp[if_true];refine h1 F x tv m w a _ _ rfl st ⟨Nat.le_trans CL.nb hn,(CL.adv yZ aS eR).g⟩ (fun u y cZ aH w₁ bB hR cT bO d8 jT j6=>?_) ro jI;exact Fl a9 E K CL yZ ro jI rest (i+1) bG y _ cZ aH w₁ bB cT (j6.trans hd) (aS.trans bO) (eR.trans (d8.le hn)) (by omega) (h2 u y.O hR) hQ
def WPU.region{id:Nat}{a9:Array Oper}(h:RU C T a9.toList a9.toList tm O (fun tm' O'=>Q .normal tm' O')):WPU C n0 (.region id a9 false) tm O Q:=fun hn F x tv m w a b0 hx st hG hd ro jI=>by
 subst hx;refine wpIn_region ?_;have:=Fl hT a9 (G' C n0 F x m w a.defers b0 Q) (F:=F) (x0:=x) (m0:=m) (w0:=w) (df:=a.defers) (fun tm' O'=>Q .normal tm' O') hG st.fits ro jI a9.toList 0 (by simp) x tm tv m w a st rfl (bQ.refl st.fits) (Ke.refl _ _) hn h
  (fun y tm' cZ m' w' a' h1 h2 h3 h4 h5 h6=>⟨y,tm',cZ,m',h1,h2,h3,h4,h5,by rw[h6];exact hd.adv st.fits h3⟩)
 rw[List.range_eq_range'];simpa using this
end
def oZ(T:Tb)(O:Sg)(tm:I U):I ResultVar->V (I U)
 |[]=>some []|.tmp t::r=>match nth tm t with
  |some v=>(match oZ T O tm r with
   |some l=>some (v::l)|none=>none)
  |none=>none
 |.cell a t::r=>match nI T O tm (.load t (.tmp a))with
  |some v=>(match oZ T O tm r with
   |some l=>some (v::l)|none=>none)
  |none=>none
def oG:I U->U
 |[v]=>v|l=>.tup l
def Pa{T:Tb}{x:Cx}(hx:kM x){tm:I U}{tv:I M}(ht:bF x tm tv):∀{rs:I ResultVar}{us:I U},oZ T x.O tm rs=some us->∃vs,GA T tv x.s rs=some vs/\bF x us vs
 |[],us,h=>by simp[oZ,zA]at h;subst h;exact⟨[],rfl,bF.nil x⟩
 |.tmp t::rs,us,h=>by simp[oZ,jA]at h;rcases h1:tm[t]? with _|u;simp[h1]at h;rcases h2:oZ T x.O tm rs with _|l;simp[h1,h2]at h;simp[h1,h2,zA]at h;subst h;have⟨v,e1,e2⟩:=ht.get h1;have⟨vs,e3,e4⟩:=Pa hx ht h2;exact⟨v::vs,by simp[GA,jA,e1,e3],bF.cons e2 e4⟩
 |.cell a t::rs,us,h=>by
  simp[oZ]at h;rcases h1:nI T x.O tm (.load t (.tmp a))with _|u;simp[h1]at h;rcases h2:oZ T x.O tm rs with _|l;simp[h1,h2]at h;simp[h1,h2,zA]at h;subst h;have⟨v,y,e1,e2,e3,e4⟩:=qzs hx ht h1;have⟨vs,e5,e6⟩:=Pa hx ht h2;have hp:iZ T tv (.load t (.tmp a))=none:=rfl;have he:uD T tv x.s (.load t (.tmp a))=none:=rfl;have hc:callOf T tv (.load t (.tmp a))=none:=rfl;unfold AU at e1;simp[hp,he,hc]at e1;rcases nN:o3 T tv x.s (.load t (.tmp a))with _|v';simp[nN]at e1;simp[nN,zA,zB]at e1;have⟨rfl,hs⟩:=e1;refine⟨v'::vs,by simp[GA,nN,e5],bF.cons ?_ e6⟩;have gD:Mo y.O.nx y x:=by refine⟨fun k hk sK=>?_,fun i row e hl=>by rw[hs];exact hl⟩;rw[e2]at sK ⊢;refine⟨sK,fun b hb=>⟨b,hb,zF _,fun _=>⟨?_,fun l e sz st h=>⟨l,h⟩⟩⟩⟩;have:=(e4.mo.ref k (by rw[<-e2];exact hk) sK).2 b (by rw[e2];exact hb);have⟨b',q1,q2,q3⟩:=this;rw[hb]at q1;cases q1;exact(q3 rfl).1.symm
  exact gD.ke u _ (aD.bel _ _ e3) e3
def z56{us:I U}{vs:I M}(h:bF x us vs):aD x (oG us) (xF vs):=by
 match us,vs,h with
 |[],vs,h=>rw[h.nil_inv];simp only[oG,xF,aD];exact⟨[],rfl,by simp[cU],rfl⟩|[u],vs,h=>obtain⟨v,vH,rfl,h1,h2⟩:=h.inv;rw[h2.nil_inv];exact h1
 |u::u'::us,vs,h=>obtain⟨v,vH,rfl,h1,h2⟩:=h.inv;obtain⟨v',vs'',rfl,h3,h4⟩:=h2.inv;simp only[oG,xF,aD];exact⟨_,rfl,h.1,h.2⟩
def D3:Nat->I U->I U
 |0,l=>l|n+1,[]=>.tup []::D3 n []
 |n+1,v::l=>v::D3 n l
def Pd{x:Cx}:∀(n:Nat){us:I U}{vs:I M},bF x us vs->bF x (D3 n us) (pad n vs)
 |0,us,vs,h=>h|n+1,[],vs,h=>by rw[h.nil_inv];exact bF.cons (by simp[aD];exact⟨[],rfl,by simp[cU],rfl⟩) (Pd n (bF.nil x))
 |n+1,u::us,vs,h=>by obtain⟨v,vH,rfl,h1,h2⟩:=h.inv;exact bF.cons h1 (Pd n h2)
section
variable{P:Program}{T:Tb}(hT:lP P T)
include hT
def Fi{f:FuncId}{fn:Func}{c:Code}{args:I U}{O:Sg}{R:U->Sg->Prop}(hf:T.fn f=some fn)(hb:fn.body=some c)
  (h:WPU (PG.of P) O.nx c (D3 fn.ntmps args) O fun e tm' O'=>(e=.normal\/e=.ret)/\∃l,oZ T O' tm' fn.results.toList=some l/\∃u' c6,O.nx<=c6.nx/\Gh O.nx [oG l] O' [u'] c6/\R u' c6):bE P f args O R:=fun F x vs m w bI hx hh mJ he fT dB=>by
 have⟨yZ,_⟩:=hT.fn f fn hf;have eS:bI.length=vs.length:=by rw[<-dB.at];simp
 apply calls_of_wp yZ hb;have nS:xJ m x.s.nx (pad fn.ntmps vs) { tmps:=bI.toArray++Array.replicate (fn.ntmps-bI.toArray.size) undef,defers:=[] }:=fun m' dK=>by simp only[T',yJ,dB m' dK,eS,List.size_toArray];apply Array.ext';simp[mY,aI,undef]
 apply wp_mono ((wpIn_wide (n:=0)).1 (h (zF _) F x _ m w _ 0 hx ⟨hh,mJ,Pd _ he,fT,nS⟩ ⟨Nat.zero_le _,trivial⟩ ⟨fun _=>rfl,fun h=>by cases h⟩ none trivial));rintro e a' w' ⟨y,tm',cZ,m',⟨xT,l,lI,u',c6,jT,Xa,hR⟩,cT,aS,eR,hn,hdf0⟩;have j6:a'.defers=[]:=hdf0.eq rfl;have⟨ls,K6,B1⟩:=Pa cT.h cT.e lI;have cX:∀m'',aN y.s.nx m' m''->(results fn a'.tmps).run P w'=.ok (aI m'' (xF ls)) w':=fun m'' m6=>by rw[cT.act m'' m6];exact n_ hT (cT.fits m'' m6) K6
 have hO:fI m' y.s.nx (xF ls) (aI m' (xF ls)):=fun m'' m6=>by have e1:=cX m'' m6;rw[cX m' (aN.refl _ _)]at e1;simp at e1;exact e1.symm
 have⟨z,z1,z2,z3,z4,z5,z6⟩:=Xa F y [xF ls] rfl cT.h cT.fr (bF.cons (z56 B1) (bF.nil y));have⟨v0,Md,e0,z7,_⟩:=z5.inv;cases e0;have d9:=z1 m' w' cT.fits;have DJ:bodyPost P fn (fun e w₁=>∃y aH u v cv,e=.returned cv/\R u y.O/\bQ m x.s w aH y.s w₁/\fI aH y.s.nx v cv/\kM y/\Fr F y/\aD y u v/\Ke x.O.nx x y/\x.O.nx<=y.O.nx) .ret a' w' :=
  ⟨j6,_,cX m' (aN.refl _ _),z,m',u',xF ls,_,rfl,z2 ▸ hR,aS.trans d9,hO.ext (aN.refl _ _) d9.nx,z3,z4,z7,hx ▸ eR.trans z6,by rw[hx,z2];exact jT⟩
 rcases xT with rfl |rfl;exact DJ;exact DJ
end
def bE.mono{P:Program}{f:FuncId}{args:I U}{O:Sg}{R R':U->Sg->Prop}(h:bE P f args O R)(hr:∀u O',R u O'->R' u O'):bE P f args O R':=fun F x vs m w bI hx hh mJ he fT dB=>
 (h F x vs m w bI hx hh mJ he fT dB).mono fun _ _ ⟨y,aH,u,v,cv,h1,h2,h3⟩=>⟨y,aH,u,v,cv,h1,hr _ _ h2,h3⟩
end Go.Vx
namespace Go.Vx
open Go Go.Rx
def bE.pure{P:Program}{f:FuncId}{args:I U}{R:U->Prop}(h:bE P f args ⟨[],0⟩ (fun u _=>R u/\bC 0 u))(ha:aL 0 args)(O:Sg):bE P f args O (fun u O'=>R u/\O'=O):=fun F x vs m w bI hx hh mJ he fT dB=>by
 have h0:kM ⟨fun _=>none,⟨[],0⟩,x.s⟩:=⟨fun k b hb=>by simp[gt]at hb,fun k k' b b' i hb=>by simp[gt]at hb,hh.bd⟩;have hm0:Mo 0 x ⟨fun _=>none,⟨[],0⟩,x.s⟩:=⟨fun k hk=>by omega,fun _ _ _ h=>h⟩;refine(h (fun i b=>lk x.s.h i=some b) ⟨fun _=>none,⟨[],0⟩,x.s⟩ vs m w bI rfl h0 (fun i b hb=>⟨hb,fun k c hc=>by simp[gt]at hc⟩) (hm0.ke.E ha he) fT dB).mono ?_;rintro e w₁ ⟨y,aH,u,v,cv,rfl,⟨hR,eS⟩,aS,hO,Wy,wS,DH,_,_⟩;have gD:Mo x.O.nx x ⟨x.Y,x.O,y.s⟩:=⟨fun k _ h2=>⟨h2,fun b hb=>⟨b,hb,zF _,fun _=>⟨rfl,fun l e sz st h=>⟨l,h⟩⟩⟩⟩,fun i row e hl=>(wS i _ hl).1⟩;have hm1:Mo 0 y ⟨x.Y,x.O,y.s⟩:=⟨fun k hk=>by omega,fun _ _ _ h=>h⟩;refine⟨⟨x.Y,x.O,y.s⟩,aH,u,v,cv,rfl,⟨hR,hx⟩,aS,hO,⟨fun k b hb=>?_,hh.inj,Wy.bd⟩,fun i b hb=>?_,hm1.ke u v eS DH,gD.ke,zF _⟩;have⟨h1,h2⟩:=hh.ok k b hb;exact⟨h1,h2.mono gD rfl fun i c _ hl=>(wS i c hl).1⟩;have⟨h1,h2⟩:=mJ i b hb;exact⟨(wS i b h1).1,h2⟩
def BelB(n:Nat):B->Prop
 |.row l _=>aL n l|.vec l _ _ _=>aL n l
 |.map es _=>∀e∈es,bC n e.key/\bC n e.val
def GH(n:Nat):I (Nat×B)->Prop
 |[]=>True|(_,b)::h=>BelB n b/\GH n h
def cut(n:Nat):I (Nat×B)->I (Nat×B)
 |[]=>[]|(k,b)::h=>cond (Nat.blt k n) ((k,b)::cut n h) (cut n h)
def Gg(n:Nat)(h:I (Nat×B))(k:Nat):gt (cut n h) k=if k<n then gt h k else none:=by induction h with|nil=>simp[cut,gt]|cons p h ih=>have⟨j,b⟩:=p;simp[cut];by_cases hj:j<n;rw[pF hj];simp[zC,eA,ih];by_cases nQ:j=k;subst nQ;simp[hj];simp[nQ];rw[H6 hj];simp[zD,eA,ih];by_cases nQ:j=k;subst nQ;simp[hj];simp[nQ]
def z75{n:Nat}{h:I (Nat×B)}(hb:GH n h){k:Nat}{b:B}(hg:gt h k=some b):BelB n b:=by induction h with|nil=>simp[gt]at hg|cons p h ih=>have⟨j,c⟩:=p;simp[GH]at hb;simp[eA]at hg;split at hg;cases hg;exact hb.1;exact ih hb.2 hg
def oS.monoB{n:Nat}{x y:Cx}{k:Nat}{b:B}(h:oS x k b)(hb:BelB n b)(hm:Mo n x y)(kW:y.Y k=x.Y k)(hl:∀i c,x.Y k=some i->lk x.s.h i=some c->lk y.s.h i=some c):oS y k b:=by
 cases b with
 |row l e=>have⟨k1,i,l',e1,e2,e3⟩:=h;exact⟨k1,i,l',by rw[kW,e1],hl _ _ e1 e2,hm.ke.E hb e3⟩
 |vec l e sz st=>have⟨k1,k2,h3⟩:=h;refine⟨k1,k2,?_⟩;rcases h3 with⟨h3,h4⟩|⟨i,l',e1,e2,e3⟩;exact .inl ⟨h3,by rw[kW,h4]⟩;exact .inr ⟨i,l',by rw[kW,e1],hl _ _ e1 e2,hm.ke.E hb e3⟩
 |map es cl=>have⟨i,es',e1,e2,e3⟩:=h;refine⟨i,es',by rw[kW,e1],hl _ _ e1 e2,e3.1,fun j e he=>?_⟩;have⟨v,q1,q2,q3,q4⟩:=e3.2 j e he;have:=hb e (zX he);exact⟨v,q1,hm.ke _ _ this.1 q2,hm.ke _ _ this.2 q3,q4⟩
def BM:I Bool->I U->I U
 |true::l,_::tm=>.junk::BM l tm|false::l,u::tm=>u::BM l tm
 |_,tm=>tm
def np{x:Cx}:∀(l:I Bool){tm:I U}{tv:I M},bF x tm tv->bF x (BM l tm) tv
 |[],tm,tv,h=>by cases tm<;>exact h
 |true::l,[],tv,h=>h|false::l,[],tv,h=>h
 |true::l,u::tm,tv,h=>by obtain⟨v,vs,rfl,h1,h2⟩:=h.inv;exact bF.cons (by simp[aD]) (np l h2)
 |false::l,u::tm,tv,h=>by obtain⟨v,vs,rfl,h1,h2⟩:=h.inv;exact bF.cons h1 (np l h2)
def Gh.junk(n0:Nat)(l:I Bool)(tm:I U)(O:Sg):Gh n0 tm O (BM l tm) O:=fun F x tv hx h hf he=>⟨x,fun m w hf=>bQ.refl hf,hx,h,hf,np l he,Ke.refl _ _⟩
def Gh.cut{n0 n1:Nat}{tm:I U}{O:Sg}(h1:n0<=n1)(h2:n1<=O.nx)(hb:aL n1 tm)(hh:GH n1 (Vx.cut n1 O.h)):Gh n0 tm O tm ⟨Vx.cut n1 O.h,n1⟩:=fun F x tv hx hr hf he=>by
 subst hx;have gD:Mo n1 x ⟨x.Y,⟨Vx.cut n1 x.O.h,n1⟩,x.s⟩:=by refine⟨fun k hk _=>⟨hk,fun b hb=>?_⟩,fun _ _ _ h=>h⟩;simp[Gg,hk,if_true]at hb;exact⟨b,hb,zF _,fun _=>⟨rfl,fun l e sz st h=>⟨l,h⟩⟩⟩
 have sub:∀{k b},gt (Vx.cut n1 x.O.h) k=some b->k<n1/\gt x.O.h k=some b:=fun{k b} hg=>by simp only[Gg]at hg;split at hg;exact⟨by assumption,hg⟩;cases hg
 refine⟨⟨x.Y,⟨Vx.cut n1 x.O.h,n1⟩,x.s⟩,fun m w hf=>bQ.refl hf,rfl,⟨fun k b hg=>?_,fun k k' b b' i g1 g2=>hr.inj k k' b b' i (sub g1).2 (sub g2).2,hr.bd⟩,fun i b J=>?_,gD.ke.E hb he,gD.ke.le h1⟩;exact⟨(sub hg).1,(hr.ok k b (sub hg).2).2.monoB (z75 hh hg) gD rfl fun _ _ _ h=>h⟩;exact⟨(hf i b J).1,fun k c hc=>(hf i b J).2 k c (sub hc).2⟩
def z00{l:I M}{i:Nat}{v:M}(h:l[i]? = some v):l.set i v=l:=by apply List.ext_getElem?;intro j;rw[List.getElem?_set];split;rename_i e;subst e;have:=(zG.1 h).1;simp only[this,if_true];exact h.symm;rfl
def Gh.nilvec{n0:Nat}{tm:I U}{O:Sg}(i:Nat)(e:X)(sz:Nat)(dS:0<sz)(h0:n0<=O.nx)(hi:nth tm i=some .nils):Gh n0 tm O (tm.set i (.vl O.nx 0 0 0)) (newU O (.vec [] e sz 0)):=fun F x tv hx hr hf he=>by
 subst hx;have ho:=kc hr e sz dS;rw[jA]at hi;have⟨v,h1,h2⟩:=he.get hi;simp[aD]at h2;subst h2;refine⟨⟨mL x.Y x.O.nx none,newU x.O (.vec [] e sz 0),x.s⟩,fun m w hf=>bQ.refl hf,rfl,ho.h,ho.fr F hf,?_,ho.mo.ke.le h0⟩;have:=(ho.mo.ke.E he.bel he).set i (w_ (x:=x) (e:=e) (sz:=sz) (o:=none) (by simp))
 rwa [z00 h1]at this
def bQ.freeze{m:Nm}{s:S}{w:World}(h:iA m s w){i:Nat}{l:I M}{e md e1:Nat}(hl:lk s.h i=some (.inl (l,e,md)))(qQ:md=0/\e1=0\/∃sz,md=sz+2/\e1=sz+1):
  bQ m s w m ⟨up s.h i (.inl (l,e1,1)),s.nx⟩ w:=by
 have old:∀j c,lk (up s.h i (.inl (l,e1,1))) j=some c->∃d,lk s.h j=some d/\(Own c=true->Own d=true)/\(j≠i->c=d):=fun j c hc=>by simp[AK]at hc;by_cases m7:i=j;subst m7;simp[if_true,hl,zM,zA]at hc;subst hc;exact⟨_,hl,fun h=>by simp[Own]at h,fun h=>absurd rfl h⟩;simp[m7,if_false]at hc;exact⟨c,hc,id,fun _=>rfl⟩
 refine⟨aN.refl _ _,zF _,fun m' ha=>?_,?_,fun _ _ _=>rfl,zF _,rfl,rfl,rfl⟩;have hf:=h m' ha;refine⟨fun j c hc=>?_,fun j k c d hc hd nQ ho=>?_,fun j c hc=>?_⟩;by_cases m7:j=i;subst m7;simp[AK,if_true,hl,zM,zA]at hc;subst hc;have hr:D5 m' j l e w md:=hf.ok j _ hl;rcases qQ with⟨rfl,rfl⟩|⟨sz,rfl,rfl⟩;have⟨h0,h1⟩:=hr;exact⟨_,_,_,h1,fun k v hk=>by simp[h0,mY,hk],fun n hn=>absurd hn (by simp)⟩;have⟨pr,rest,h1,h2,h3⟩:=hr;refine⟨_,_,_,h1,fun k v hk=>?_,fun n hn=>?_⟩;have aE:k<l.length:=(zG.1 hk).1;simp[List.getElem?_toArray,zT,<-h2];rw[List.getElem?_append_right (by omega),Nat.add_sub_cancel_left,List.getElem?_append_left (by simpa using aE)];simp[mY,hk];have:n=sz:=(Nat.succ.inj hn).symm;subst this;exact Nat.le_of_add_right_le (Nat.le_of_eq h3);have⟨d,h1,_,h3⟩:=old j c hc;rw[h3 m7];exact hf.ok j d h1;have⟨c',h1,h2,_⟩:=old j c hc;have⟨d',h3,_,_⟩:=old k d hd;exact hf.inj j k c' d' h1 h3 nQ (h2 ho);have⟨d,h1,_⟩:=old j c hc;exact hf.bd j d h1;rintro b ⟨j,c,hc,ho,rfl⟩;have⟨d,h1,h2,_⟩:=old j c hc;exact .inl ⟨j,d,h1,h2 ho,rfl⟩
def cD(sz:Nat):Nat->I U->I (I U)
 |0,_=>[]|n+1,l=>l.take sz::cD sz n (l.drop sz)
def s_(sz n:Nat)(l:I U):(cD sz n l).length=n:=by induction n generalizing l with|zero=>rfl|succ n ih=>simp[cD,ih]
def r_{x:Cx}{sz:Nat}:∀(n:Nat){l:I U}{vs:I M},cU x l vs->okL l=true->n*sz<=l.length->iV x sz (cD sz n l) vs
 |0,l,vs,h,hk,hl=>by simp[cD,iV]
 |n+1,l,vs,h,hk,hl=>by rw[Nat.succ_mul]at hl;simp only[cD,iV];refine⟨by simp;omega,OR hk _,?_,r_ n (h.drop sz) (H8 hk _) (by simp;omega)⟩;rw[J8]at h ⊢;intro i u hu;rw[List.getElem?_take]at hu;split at hu;exact h i u hu;cases hu
mutual
def fz(K:Nat)(b:B)(sz:Nat):U->U
 |.sl k off n c=>cond (Nat.beq k K) (match b with
  |.row l _=>if off+n*sz<=l.length then .isl false (cD sz n (l.drop off))else .sl k off n c|_=>.sl k off n c) (.sl k off n c)
 |.vl k st off n=>cond (Nat.beq k K) (match b with
  |.vec l _ j7 cT=>if cT=st/\(off+n)*j7<=l.length then .isl false (cD j7 n (l.drop (off*j7)))else .vl k st off n|_=>.vl k st off n) (.vl k st off n)
 |.ptr k st off=>cond (Nat.beq k K) (match b with
  |.row l _=>if st=0 then .iptr (l.drop off)else .ptr k st off|_=>.ptr k st off) (.ptr k st off)
 |.agg l=>.agg (k7 K b sz l)|.tup l=>.tup (k7 K b sz l)
 |.fn f a c=>.fn f (k7 K b sz a) (k7 K b sz c)|u=>u
def k7(K:Nat)(b:B)(sz:Nat):I U->I U
 |[]=>[]|u::l=>fz K b sz u::k7 K b sz l
end
def fzB(K:Nat)(b:B)(sz:Nat):B->B
 |.row l e=>.row (k7 K b sz l) e|.vec l e s st=>.vec (k7 K b sz l) e s st
 |.map es cl=>.map (es.map fun e=>{ e with val:=fz K b sz e.val }) cl
def fzH(K:Nat)(b:B)(sz:Nat):I (Nat×B)->I (Nat×B)
 |[]=>[]|(k,c)::h=>cond (Nat.beq k K) (fzH K b sz h) ((k,fzB K b sz c)::fzH K b sz h)
def Gf(K:Nat)(b:B)(sz:Nat)(h:I (Nat×B))(k:Nat):gt (fzH K b sz h) k=if k=K then none else(gt h k).map (fzB K b sz):=by induction h with|nil=>simp[fzH,gt]|cons p h ih=>have⟨j,c⟩:=p;simp[fzH,beq_eq];by_cases hj:j=K;subst hj;simp[yC,zC,ih,eA];by_cases hk:k=j;simp[hk];simp[hk,Ne.symm hk];simp[hj,yB,zD,eA,ih];by_cases hk:j=k;subst hk;simp[hj];simp[hk]
def Di(K:Nat)(b:B)(sz:Nat)(c:B):(fzB K b sz c).st=c.st:=by cases c<;>rfl
def Dg(K:Nat)(b:B)(sz:Nat)(u:U)(h:okC u=true):okC (fz K b sz u)=true:=by
 cases u with
 |sl k off n c=>
  simp[fz];rcases Nat.beq k K with _|_;rfl;simp[zC];cases b with
  |row l e=>simp only;split<;>rfl|_=>rfl
 |vl k st off n=>
  simp[fz];rcases Nat.beq k K with _|_;rfl;simp[zC];cases b with
  |vec l e s st=>simp only;split<;>rfl|_=>rfl
 |ptr k st off=>
  simp[fz];rcases Nat.beq k K with _|_;rfl;simp[zC];cases b with
  |row l e=>simp only;split<;>rfl|_=>rfl
 |agg l=>simp[okC]at h|tup l=>simp[okC]at h
 |junk=>simp[okC]at h|_=>simp[fz];first |exact h |rfl
def xj(K:Nat)(b:B)(sz:Nat):∀l:I U,okL l=true->okL (k7 K b sz l)=true
 |[],_=>rfl|u::l,h=>by simp only[okL]at h;obtain⟨h1,h2⟩:=MN h;simp[k7,okL,Dg K b sz u h1,xj K b sz l h2]
def YM(K:Nat)(b:B)(sz:Nat):∀l:I U,(k7 K b sz l).length=l.length
 |[]=>rfl|u::l=>by simp[k7,YM K b sz l]
section
variable{x y:Cx}{K:Nat}{b:B}{sz:Nat}(hg:gt x.O.h K=some b)(hb:oS x K b)(gD:Mo x.O.nx x y)
 (dA:∀i l e md,x.Y K=some i->lk x.s.h i=some (.inl (l,e,md))->(md=0/\lk y.s.h i=some (.inl (l,0,1)))\/∃s,md=s+2/\lk y.s.h i=some (.inl (l,s+1,1)))
include hg hb gD dA
mutual
def z9y:(u:U)->(v:M)->aD x u v->aD y (fz K b sz u) v
 |.sl k off n c,v,h=>by
  have keep:=gD.ke _ _ (aD.bel _ _ h) h;simp[fz,beq_eq];by_cases hk:k=K;subst hk;simp only[yC,zC];cases b with
  |row l e=>simp only;split;rename_i bA;obtain⟨i,hi,rfl,hc,v7⟩:=OP (x:=x) (by simp[bW,hg,B.st]) h;obtain⟨k1,i',l',e1,e2,e3⟩:=hb;rw[hi]at e1;cases e1;have e4:cU y l l':=(gD.ke.E e3.bel e3).1;rcases dA i l' e 0 hi e2 with⟨_,hl⟩|⟨s,hs,_⟩;simp only[aD,s_];refine .inr ⟨i,off,c,rfl,(fun ht=>by cases ht),?_⟩;by_cases hn:n=0;exact .inl (List.eq_nil_of_length_eq_zero (by rw[s_,hn]));exact .inr ⟨l',0,sz,hl,r_ n (e4.drop off) (H8 k1 _) (by simp;omega),.inl ⟨hc,v7⟩⟩;omega;exact keep
  |_=>exact keep
  simp[hk,yB,zD];exact keep
 |.vl k st off n,v,h=>by
  have keep:=gD.ke _ _ (aD.bel _ _ h) h;simp[fz,beq_eq];by_cases hk:k=K;subst hk;simp[yC,zC];cases b with
  |vec l e j7 cT=>
   simp only;split;rename_i bA;have⟨rfl,bA⟩:=bA;have⟨l0,e0,s0,g1,g2⟩:=YL (x:=x) (by simp[bW,hg,B.st]) h;have:=hg.symm.trans g1;cases this;have⟨k1,k2,h3⟩:=hb;rcases h3 with⟨rfl,h4⟩|⟨i,l',e1,e2,e3⟩;rw[h4]at g2;obtain⟨rfl,rfl,o,rfl,ho⟩:=g2;simp only[aD,cD];rcases o with _|a;exact .inl ⟨trivial,.inl rfl⟩;exact .inr ⟨a.block,a.off,0,by obtain⟨q1,q2,q3⟩:=a;have:=ho _ rfl;simp only at this;subst this;rfl,by simp,.inl trivial⟩;rw[e1]at g2;have e4:cU y l l':=(gD.ke.E e3.bel e3).1;rcases dA i l' e _ e1 e2 with⟨h0,_⟩|⟨s,hs,hl⟩;omega;have:s=j7:=by omega
   subst this;simp only[aD,s_];rcases g2 with⟨_,rfl,a,c,rfl,ha⟩|rfl;exact .inr ⟨a.block,a.off,c,by obtain⟨q1,q2,q3⟩:=a;simp only at ha;subst ha;rfl,by simp,.inl rfl⟩;refine .inr ⟨i,off*s,bY+off,rfl,by simp,?_⟩;rw[Nat.add_mul]at bA;exact .inr ⟨l',s+1,s,hl,r_ n (e4.drop _) (H8 k1 _) (by simp;omega),.inr ⟨by omega,rfl,k2,by simp[bR],by rw[<-e3.2];exact bA⟩⟩;exact keep
  |_=>exact keep
  simp[hk,yB,zD];exact keep
 |.ptr k st off,v,h=>by
  have keep:=gD.ke _ _ (aD.bel _ _ h) h;simp[fz,beq_eq];by_cases hk:k=K;subst hk;simp only[yC,zC];cases b with
  |row l e=>simp only;split;rename_i bZ;subst bZ;obtain⟨i,hi,rfl⟩:=YR (x:=x) (by simp[bW,hg,B.st]) h;obtain⟨k1,i',l',e1,e2,e3⟩:=hb;rw[hi]at e1;cases e1;have e4:cU y l l':=(gD.ke.E e3.bel e3).1;rcases dA i l' e 0 hi e2 with⟨_,hl⟩|⟨s,hs,_⟩;simp only[aD];exact⟨i,off,l',0,rfl,hl,e4.drop off,H8 k1 _⟩;omega;exact keep
  |_=>exact keep
  simp[hk,yB,zD];exact keep
 |.agg l,v,h=>by simp[aD,fz]at*;obtain⟨vs,rfl,h1,h2,h3⟩:=h;exact⟨vs,rfl,Gw l vs h1,by rw[YM];exact h2,xj K b sz l h3⟩
 |.tup l,v,h=>by simp[aD,fz]at*;obtain⟨vs,rfl,h1,h2⟩:=h;exact⟨vs,rfl,Gw l vs h1,by rw[YM];exact h2⟩
 |.fn f p q,v,h=>by simp[aD,fz]at*;obtain⟨va,vb,rfl,h1,h2,h3,h4⟩:=h;exact⟨va,vb,rfl,Gw p va h1,by rw[YM];exact h2,Gw q vb h3,by rw[YM];exact h4⟩
 |.junk,v,h=>by simp[fz,aD]
 |.bool _,v,h=>by simpa[fz,aD]using h
 |.int _ _,v,h=>by simpa[fz,aD]using h
 |.str _,v,h=>by simpa[fz,aD]using h
 |.nilp,v,h=>by simpa[fz,aD]using h
 |.nils,v,h=>by simpa[fz,aD]using h
 |.nilm,v,h=>by simpa[fz,aD]using h
 |.nilf,v,h=>by simpa[fz,aD]using h
 |.nili,v,h=>by simpa[fz,aD]using h
 |.map k,v,h=>by simp[fz];exact gD.ke _ _ (aD.bel _ _ h) h
 |.iptr l,v,h=>by simp[fz];exact gD.ke _ _ (aD.bel _ _ h) h
 |.isl t l,v,h=>by simp[fz];exact gD.ke _ _ (aD.bel _ _ h) h
def Gw:(l:I U)->(vs:I M)->cU x l vs->cU y (k7 K b sz l) vs
 |[],vs,h=>by have _:=hg;have _:=hb;have _:=gD;have _:=dA;simp[k7,cU]
 |u::l,[],h=>by simp[cU]at h
 |u::l,v::vs,h=>by simp[cU,k7]at*;exact⟨z9y u v h.1,Gw l vs h.2⟩
end
end
def Gh.freeze{n0:Nat}{tm:I U}{O:Sg}{K:Nat}{b:B}(sz:Nat)(hg:gt O.h K=some b)(hb:∀es cl,b≠.map es cl):Gh n0 tm O (k7 K b sz tm) ⟨fzH K b sz O.h,O.nx⟩:=fun F x tv hx hr hf he=>by
 subst hx;have⟨hK,hB⟩:=hr.ok K b hg;have hs:∃s':S,(∀m w,iA m x.s w->bQ m x.s w m s' w)/\(∀i c,lk x.s.h i=some c->x.Y K≠some i->lk s'.h i=some c)/\(∀i c,lk s'.h i=some c->i<s'.nx)/\
   (∀i l e md,x.Y K=some i->lk x.s.h i=some (.inl (l,e,md))->(md=0/\lk s'.h i=some (.inl (l,0,1)))\/∃s,md=s+2/\lk s'.h i=some (.inl (l,s+1,1))):=by
  have act:∀i l e md e1,x.Y K=some i->lk x.s.h i=some (.inl (l,e,md))->(md=0/\e1=0\/∃sz,md=sz+2/\e1=sz+1)->∃s':S,(∀m w,iA m x.s w->bQ m x.s w m s' w)/\(∀i c,lk x.s.h i=some c->x.Y K≠some i->lk s'.h i=some c)/\(∀i c,lk s'.h i=some c->i<s'.nx)/\
   (∀i l e md,x.Y K=some i->lk x.s.h i=some (.inl (l,e,md))->(md=0/\lk s'.h i=some (.inl (l,0,1)))\/∃s,md=s+2/\lk s'.h i=some (.inl (l,s+1,1))):=by
   intro i l e md e1 hi hl qQ;refine⟨⟨up x.s.h i (.inl (l,e1,1)),x.s.nx⟩,fun m w hf=>bQ.freeze hf hl qQ,fun j c hc d5=>?_,fun j c hc=>?_,fun j l' e' md' hj FT=>?_⟩;have:i≠j:=fun h=>d5 (by rw[hi,h]);simp[AK,this,hc];simp[AK]at hc;split at hc;rename_i h;subst h;exact hr.bd _ _ hl;exact hr.bd j c hc;rw[hi]at hj;cases hj;rw[hl]at FT;cases FT;rcases qQ with⟨rfl,rfl⟩|⟨s,rfl,rfl⟩
   exact .inl ⟨rfl,by simp[AK,hl]⟩;exact .inr ⟨s,rfl,by simp[AK,hl]⟩
  cases b with
  |map es cl=>exact absurd rfl (hb es cl)|row l e=>have⟨_,i,l',e1,e2,_⟩:=hB;exact act i l' e 0 0 e1 e2 (.inl ⟨rfl,rfl⟩)
  |vec l e s st=>have⟨_,_,h3⟩:=hB;rcases h3 with⟨_,h4⟩|⟨i,l',e1,e2,_⟩;exact⟨x.s,fun m w hf=>bQ.refl hf,fun i c hc _=>hc,hr.bd,fun i l e md hi=>by rw[h4]at hi;cases hi⟩;exact act i l' e (s+2) (s+1) e1 e2 (.inr ⟨s,rfl,rfl⟩)
 have⟨s',a1,a2,a3,a4⟩:=hs;have sub:∀{k c},gt (fzH K b sz x.O.h) k=some c->k≠K/\∃d,gt x.O.h k=some d/\c=fzB K b sz d:=fun{k c} h=>by rw[Gf]at h;split at h;cases h;rename_i hk;rcases hd:gt x.O.h k with _|d;simp[hd]at h;simp[hd]at h;exact⟨hk,d,rfl,h.symm⟩
 have gD:Mo x.O.nx x ⟨x.Y,⟨fzH K b sz x.O.h,x.O.nx⟩,s'⟩:=by refine⟨fun k _ h2=>⟨h2,fun c hc=>?_⟩,fun i row e hl=>a2 i _ hl fun h=>hB.not1 h hl⟩;obtain⟨_,d,h1,rfl⟩:=sub hc;refine⟨d,h1,by rw[Di];exact zF _,fun _=>⟨rfl,fun l e s st h=>?_⟩⟩;subst h;exact⟨_,rfl⟩
 have Xb:=fun u v h=>z9y (y:=⟨x.Y,⟨fzH K b sz x.O.h,x.O.nx⟩,s'⟩) (sz:=sz) hg hB gD a4 u v h;have Ch:∀{l:I U}{vs:I M},bF x l vs->bF ⟨x.Y,⟨fzH K b sz x.O.h,x.O.nx⟩,s'⟩ (k7 K b sz l) vs:=fun{l vs} h=>⟨Gw hg hB gD a4 l vs h.1,by rw[YM];exact h.2⟩;refine⟨⟨x.Y,⟨fzH K b sz x.O.h,x.O.nx⟩,s'⟩,a1,rfl,⟨fun k c hc=>?_,fun k k' c c' i h1 h2=>?_,a3⟩,fun i c hc=>?_,Ch he,fun u v _ h=>gD.ke u v (aD.bel _ _ h) h⟩;obtain⟨hk,d,h1,rfl⟩:=sub hc;obtain⟨h2,h3⟩:=hr.ok k d h1;refine⟨h2,?_⟩;have d5:∀i,x.Y k=some i->x.Y K≠some i:=fun i h h'=>hk (hr.inj k K d b i h1 hg h h');cases d with
 |row l e=>have⟨k1,i,l',e1,e2,e3⟩:=h3;exact⟨xj _ _ _ _ k1,i,l',e1,a2 i _ e2 (d5 i e1),Ch e3⟩
 |vec l e s st=>have⟨k1,k2,h3⟩:=h3;refine⟨xj _ _ _ _ k1,k2,?_⟩;rcases h3 with⟨rfl,h4⟩|⟨i,l',e1,e2,e3⟩;exact .inl ⟨rfl,h4⟩;exact .inr ⟨i,l',e1,a2 i _ e2 (d5 i e1),Ch e3⟩
 |map es cl=>have⟨i,es',e1,e2,e3⟩:=h3;refine⟨i,es',e1,a2 i _ e2 (d5 i e1),by simp[e3.1],fun j e he=>?_⟩;rw[List.getElem?_map]at he;rcases hj:es[j]? with _|e0;simp[hj]at he;simp[hj]at he;subst he;have⟨v,q1,q2,q3,q4⟩:=e3.2 j e0 hj;exact⟨v,q1,gD.ke _ _ (aD.bel _ _ q2) q2,Xb _ _ q3,q4⟩
 have⟨_,d,g1,_⟩:=sub h1;have⟨_,d',g2,_⟩:=sub h2;exact hr.inj k k' d d' i g1 g2;have⟨h1,h2⟩:=hf i c hc;refine⟨a2 i c h1 (h2 K b hg),fun k d hd=>?_⟩;have⟨_,d',g1,_⟩:=sub hd;exact h2 k d' g1
end Go.Vx
