import Derived.CallsIn
import Derived.OrdersIn
import Derived.Test.YtmflfedkfdkipaaGreatP6
set_option linter.all false
namespace Go.Vx
open Go Go.Rx
def cQ(tm:List U)(d:Option Tmp)(u:U):List U:=match d with
 |none=>tm|some d=>tm.set d u
variable{x:Cx}
variable{tm:List U}
theorem BA{tv:List Value}(h:aQ x tm tv){u:U}{v:Value}(hu:aA x u v)(d:Option Tmp):aQ x (cQ tm d u) (rQ tv d v):=by
 rcases d with _|d;exact h;exact h.set d hu
structure St(F:Nat->i5->Prop)(x:Cx)(tm:List U)(tv:List Value)(m:Nm)(w:World)(a:Act):Prop where
 h:eQ x
 fr:Fr F x
 e:aQ x tm tv
 fits:dS m x.s w
 act:qK m x.s.nx tv a
def aO(P:Program)(f:FuncId)(args:List U)(σ:Sg)(Q:U->Sg->Prop):Prop :=
 ∀F x vs m w cargs,x.σ=σ->eQ x->Fr F x->aQ x args vs->dS m x.s w->j5 m x.s.nx vs cargs->
  Calls P f cargs.toArray w fun e w₁=>∃y aF u v cv,e=.returned cv/\Q u y.σ/\bA m x.s w aF y.s w₁/\cZ aF y.s.nx v cv/\eQ y/\Fr F y/\aA y u v/\Ke x.σ.nx x y/\x.σ.nx<=y.σ.nx
theorem Mo.nx{x y:Cx}(h:Mo x.σ.nx x y):x.σ.nx<=y.σ.nx:=by
 cases hn:x.σ.nx with|zero=>omega|succ n=>have:=(h.ref n (by omega) (by omega)).1;omega
theorem GN(P:Program):Q8 P nc:=fun f args s v aU h=>by simp[nc]at h
theorem wY(a:Act)(d:Option Tmp)(v:Value):(a.put d v).defers=a.defers:=by cases d<;>rfl
section
variable{P:Program}{T:Tb}(hT:eZ P T){F:Nat->i5->Prop}{x:Cx}{tm:List U}{tv:List Value}{m:Nm}{w:World}{a:Act}
include hT
variable{next:Act->World->Prop}
variable{Q:Exit->Act->World->Prop}
theorem St.op(st:St F x tm tv m w a)(o:Oper){u:U}{σ':Sg}(h:aV T x.σ tm o.op=some (u,σ'))
  (hn:∀y tv' aF w₁ aS,y.σ=σ'->St F y (cQ tm o.dst u) tv' aF w₁ aS->bA m x.s w aF y.s w₁->Ke x.σ.nx x y->x.σ.nx<=y.σ.nx->aS.defers=a.defers->next aS w₁):o.wp P a w next Q:=by
 obtain⟨v,y,h1,h2,h3,h4⟩:=LZ st.h st.e h;refine GL hT (GN P) st.fits st.act o h1 fun aF w₁ cv hadv hrel=>?_;exact hn y (rQ tv o.dst v) aF w₁ _ h2 ⟨h4.h,h4.fr F st.fr,BA (h4.mo.ke.E st.e.bel st.e) h3 _,hadv.fits,(st.act.ext hadv.agree hadv.nx).put hrel o.dst⟩ hadv h4.mo.ke h4.mo.nx (wY _ _ _)
theorem St.call(st:St F x tm tv m w a)(o:Oper){f:FuncId}{args:List U}(h:fQ T tm o.op=some (f,args)){R:U->Sg->Prop}(hev:aO P f args x.σ R)
  (hn:∀y u tv' aF w₁ aS,R u y.σ->St F y (cQ tm o.dst u) tv' aF w₁ aS->bA m x.s w aF y.s w₁->Ke x.σ.nx x y->x.σ.nx<=y.σ.nx->aS.defers=a.defers->next aS w₁):o.wp P a w next Q:=by
 obtain⟨vs,h1,h2⟩:=ba st.e h;obtain⟨cargs,g1,g2⟩:=wi hT st.act o w h1;unfold Oper.wp;rw[g1];show Calls P f _ w _;refine(hev F x vs m w cargs rfl st.h st.fr h2 st.fits g2).mono ?_;rintro e w₁ ⟨y,aF,u,v,cv,rfl,hR,hadv,hrel,hh,hfr,hru,hke,hnx⟩;exact hn y u (rQ tv o.dst v) aF w₁ _ hR ⟨hh,hfr,BA (hke.E st.e.bel st.e) hru _,hadv.fits,(st.act.ext hadv.agree hadv.nx).put hrel o.dst⟩ hadv hke hnx (wY _ _ _)
theorem St.nilq(st:St F x tm tv m w a)(o:Oper){t e ty:TypeId}{xo yo:Operand}{b:Bool}{l:List (List U)}(ho:o.op=.binOp .eql t xo yo ty)(hd:T.und t=some (.slice e))(hx:bD tm xo=some (.isl b l))(hy:bD tm yo=some .nils)
  (hn:∀(z:Bool) y tv' aF w₁ aS,(z=true->l=[])->y.σ=x.σ->St F y (cQ tm o.dst (.bool z)) tv' aF w₁ aS->bA m x.s w aF y.s w₁->Ke x.σ.nx x y->x.σ.nx<=y.σ.nx->aS.defers=a.defers->next aS w₁):o.wp P a w next Q:=by
 obtain⟨vx,ex,rx⟩:=dP st.e hx;obtain⟨vy,ey,ry⟩:=dP st.e hy;simp only[aA]at rx ry;subst ry;have key:∃z:Bool,(z=true->l=[])/\pV T nc tv x.s o.op=some (.bool z,x.s):=by rw[ho];rcases rx with⟨hl,rfl |⟨r,rfl⟩⟩|⟨i,off,c,rfl,_⟩;exact⟨true,fun _=>hl,by simp[pV,eF,ex,ey,mN,sC,eqv,hd]⟩;exact⟨false,by simp,by simp[pV,eF,ex,ey,mN,sC,eqv,hd]⟩;exact⟨false,by simp,by simp[pV,eF,ex,ey,mN,sC,eqv,hd]⟩
 obtain⟨z,hz,hop⟩:=key;refine GL hT (GN P) st.fits st.act o hop fun aF w₁ cv hadv hrel=>?_;exact hn z x (rQ tv o.dst (.bool z)) aF w₁ _ hz rfl ⟨st.h,st.fr,BA st.e (by simp[aA]) _,hadv.fits,(st.act.ext hadv.agree hadv.nx).put hrel o.dst⟩ hadv (Ke.refl _ _) (zF _) (wY _ _ _)
omit hT in
theorem St.skip(st:St F x tm tv m w a)(d:Option Tmp):St F x (cQ tm d (.tup [])) (rQ tv d undef) m w (a.put d undef):=
 ⟨st.h,st.fr,BA st.e (by simp only[aA];exact⟨[],rfl,by simp[bN],rfl⟩) _,st.fits,st.act.put (oO fun _=>by simp[undef,ren,aD]) d⟩
end
def bO(ops:List Oper)(tm:List U)(o:Oper):Option Bool :=
 match o.guard with
 |none=>some true|some (j,want)=>match qO ops j with
  |none=>some false|some d=>match nth tm d with
   |some (.bool b)=>some (b==want)|some (.tup _)=>some false
   |_=>none
theorem wW{ops:List Oper}{tv:List Value}(ht:aQ x tm tv){o:Oper}{b:Bool}(h:bO ops tm o=some b):UT ops tv o=b:=by
 unfold bO at h;unfold UT;rcases hg:o.guard with _|g;simp[hg]at h;simp[h];obtain⟨j,want⟩:=g;simp only[hg]at h ⊢;rcases hd:qO ops j with _|d;simp[hd]at h;simp[h];simp only[hd,eR]at h ⊢;rcases hu:tm[d]? with _|u;simp[hu]at h;obtain⟨v,h1,h2⟩:=ht.get hu;rw[h1];cases u with
 |bool c=>simp only[hu,zA]at h;simp only[aA]at h2;subst h2;simp[h]|tup l=>simp only[hu,zA]at h;simp only[aA]at h2;obtain⟨vs,rfl,_⟩:=h2;simp[h]
 |_=>simp[hu]at h
def qI(ro:Option Nat):Fence:={ Fence.wide with round:=ro }
variable{ro:Option Nat}
variable{n:Nat}
variable{P:Program}
variable{w:World}
theorem OP{f:FuncId}{args:Array Value}{R:Ending->World->Prop}(h:Calls P f args w R):CallsIn (qI ro) n P f args w R:=(callsIn_wide (n:=n)).2 h
theorem TX{row:String}{args:Array Value}{R:Value->World->Prop}(h:Rows P row args w R):RowsIn (qI ro) n P row args w R:=fun c cs _=>by
 obtain⟨v,w',r,s⟩:=h c cs;exact⟨v,w',r,(stepsIn_wide (P:=P)).2 s⟩
theorem Yh:(qI ro).depth.isSome=true->1<=n:=fun h=>by simp[qI,Fence.wide]at h
theorem oM{o:Oper}{a:Act}{next:Act->World->Prop}{Q:Exit->Act->World->Prop}(ho:∀c,o.op≠.defer c)(h:o.wp P a w next Q):o.wpIn (qI ro) n P a w next Q:=by
 refine⟨fun _ _=>trivial,?_⟩;have e:o.semAt (qI ro).round a.eval=execOp a.eval o:=Oper.semAt_eq _ _ _ ho;rw[e];revert h;unfold Oper.wp;generalize (execOp a.eval o).run P w=r;intro h;unfold Oper.upon at h;split at h;exact h;exact h;exact h;exact⟨Yh,OP h⟩;exact⟨Yh,TX h⟩;exact h;exact h.elim
theorem FJ{T:Tb}{σ:Sg}{op:Op}{r:U×Sg}(h:aV T σ tm op=some r):∀c,op≠.defer c:=by
 rintro c rfl;simp[aV,eH,kN,jN]at h
theorem Eb{T:Tb}{op:Op}{r:FuncId×List U}(h:fQ T tm op=some r):∀c,op≠.defer c:=by
 rintro c rfl;simp[fQ]at h
structure PG where
 prog:Program
 nb:Nat
 G:Cx->Nm->World->Prop
 ro:Option Nat->Prop
 mks:Bool
 st:∀{x y:Cx}{m m':Nm}{w w':World},G x m w->dS m x.s w->bA m x.s w m' y.s w'->Ke nb x y->G y m' w'
abbrev PG.of(P:Program):PG:=⟨P,0,fun _ _ _=>True,fun _=>True,false,fun _ _ _ _=>trivial⟩
structure IF(C:PG)(n0:Nat)(x:Cx)(m:Nm)(w:World):Prop where
 nb:C.nb<=n0
 g:C.G x m w
variable{m:Nm}
variable{m':Nm}
variable{w':World}
theorem IF.adv{C:PG}{n0:Nat}{y:Cx}(h:IF C n0 x m w)(hf:dS m x.s w)(ha:bA m x.s w m' y.s w')(hk:Ke n0 x y):IF C n0 y m' w':=⟨h.nb,C.st h.g hf ha (hk.le h.nb)⟩
def Cf(b0:Nat)(w:World)(ds:List Deferred):Prop:=b0<=w.heap.size/\∃bs:List Nat,bs.Nodup/\ds=bs.map (fun b=>{ target:=.collected b,args:=#[] })/\∀b∈bs,b0<=b/\w.heap[b]? = some (.deferred (some []))
variable{s:S}
theorem sj(hf:dS m s w){b:Nat}{o:Obj}(h:w.heap[b]? = some o)(ho:∀c e f,o≠.cells c e f)(Z7:∀q c,o≠.map q c):¬ IN m s b:=by
 rintro⟨i,c,h1,h2,rfl⟩;have:=hf.fits.ok i c h1;rcases c with⟨l,e,md⟩|⟨es,cl⟩;simp only[nX]at this
 match md,this with
 |0,hr=>simp only[pN]at hr;rw[hr.2]at h;exact ho _ _ _ (Option.some.inj h).symm|1,hr=>simp[Own]at h2
 |n+2,hr=>simp only[pN]at hr;obtain⟨_,_,hr,_⟩:=hr;rw[hr]at h;exact ho _ _ _ (Option.some.inj h).symm
 simp only[nX]at this;rw[this]at h;exact Z7 _ _ (Option.some.inj h).symm
theorem lh{s':S}(hf:dS m s w)(ha:bA m s w m' s' w'){b:Nat}{o:Obj}(h:w.heap[b]? = some o)(ho:∀c e f,o≠.cells c e f)(Z7:∀q c,o≠.map q c):w'.heap[b]? = some o:=by
 rw[ha.same b (Array.getElem?_eq_some_iff.1 h).1 (sj hf h ho Z7)];exact h
theorem Cf.adv{b0:Nat}{s':S}{ds:List Deferred}(h:Cf b0 w ds)(hf:dS m s w)(ha:bA m s w m' s' w'):Cf b0 w' ds:=by
 obtain⟨h0,bs,h1,h2,h3⟩:=h;exact⟨Nat.le_trans h0 ha.size,bs,h1,h2,fun b hb=>⟨(h3 b hb).1,lh hf ha (h3 b hb).2 (by simp) (by simp)⟩⟩
structure DR(C:PG)(b0:Nat)(ds:List Deferred)(w':World)(ds':List Deferred):Prop where
 eq:C.mks=false->ds'=ds
 ok:C.mks=true->Cf b0 w' ds'
theorem DR.trans{C:PG}{b0:Nat}{ds zR Tr:List Deferred}{w1 w2:World}(h:DR C b0 ds w1 zR)(g:DR C b0 zR w2 Tr):DR C b0 ds w2 Tr:=⟨fun hk=>(g.eq hk).trans (h.eq hk),g.ok⟩
theorem DR.here{C:PG}{b0:Nat}{ds zR:List Deferred}{w1:World}(h:DR C b0 ds w1 zR):DR C b0 zR w1 zR:=⟨fun _=>rfl,h.ok⟩
theorem DR.adv{C:PG}{b0:Nat}{ds zR:List Deferred}{m:Nm}{s:S}{w:World}{m':Nm}{s':S}{w':World}(h:DR C b0 ds w zR)(hf:dS m s w)(ha:bA m s w m' s' w'):DR C b0 ds w' zR:=⟨h.eq,fun hk=>(h.ok hk).adv hf ha⟩
def dM(C:PG)(σ:Sg)(tm:List U)(o:Oper)(R:U->Sg->Prop):Prop :=
 ∀(F:Nat->i5->Prop)(x:Cx)(tv:List Value)(m:Nm)(w:World)(a:Act)(next:Act->World->Prop)(Q:Exit->Act->World->Prop),x.σ=σ->St F x tm tv m w a->IF C x.σ.nx x m w-> (∀u y tv' aF w₁ aS,R u y.σ->St F y (cQ tm o.dst u) tv' aF w₁ aS->bA m x.s w aF y.s w₁->Ke x.σ.nx x y->x.σ.nx<=y.σ.nx->aS.defers=a.defers->next aS w₁)->∀ro,C.ro ro->o.wpIn (qI ro) 0 C.prog a w next Q
def RU(C:PG)(T:Tb)(ops:List Oper):List Oper->List U->Sg->(List U->Sg->Prop)->Prop
 |[],tm,σ,K=>K tm σ|o::r,tm,σ,K=>(bO ops tm o=some true/\∃u σ',aV T σ tm o.op=some (u,σ')/\RU C T ops r (cQ tm o.dst u) σ' K)\/ (bO ops tm o=some true/\∃f args R,fQ T tm o.op=some (f,args)/\aO C.prog f args σ R/\∀u σ',R u σ'->RU C T ops r (cQ tm o.dst u) σ' K)\/ (bO ops tm o=some false/\RU C T ops r (cQ tm o.dst (.tup [])) σ K)\/ (bO ops tm o=some true/\∃t xo yo ty e b l,o.op=.binOp .eql t xo yo ty/\T.und t=some (.slice e)/\bD tm xo=some (.isl b l)/\bD tm yo=some .nils/\∀z:Bool,(z=true->l=[])->RU C T ops r (cQ tm o.dst (.bool z)) σ K)\/ (bO ops tm o=some true/\∃R,dM C σ tm o R/\∀u σ',R u σ'->RU C T ops r (cQ tm o.dst u) σ' K)
def Kk(C:PG)(n0:Nat)(F:Nat->i5->Prop)(x:Cx)(m:Nm)(w:World)(ds:List Deferred)(b0:Nat)(Q:Exit->List U->Sg->Prop):Exit->Act->World->Prop:=fun e a' w'=>
 ∃y tm' tv' m',Q e tm' y.σ/\St F y tm' tv' m' w' a'/\bA m x.s w m' y.s w'/\Ke n0 x y/\n0<=y.σ.nx/\DR C b0 ds w' a'.defers
def WPU(C:PG)(n0:Nat)(c:Code)(tm:List U)(σ:Sg)(Q:Exit->List U->Sg->Prop):Prop :=
 n0<=σ.nx->∀F x tv m w a b0,x.σ=σ->St F x tm tv m w a->IF C n0 x m w->DR C b0 a.defers w a.defers->∀ro,C.ro ro->c.wpIn (qI ro) 0 C.prog (Kk C n0 F x m w a.defers b0 Q) a w
section
variable{C:PG}{n0:Nat}{Q:Exit->List U->Sg->Prop}{tm:List U}{σ:Sg}
def tE(K:List U->Sg->Prop)(Q:Exit->List U->Sg->Prop):Exit->List U->Sg->Prop
 |.normal,tm,s=>K tm s|e,tm,s=>Q e tm s
theorem WPU.seq{p q:Code}(h:WPU C n0 p tm σ (tE (fun tm σ=>WPU C n0 q tm σ Q) Q)):WPU C n0 (.seq p q) tm σ Q:=fun hn F x tv m w a b0 hx st hG hd ro hro=>by
 refine wpIn_seq (wpIn_mono (h hn F x tv m w a b0 hx st hG hd ro hro) ?_);rintro e a' w' ⟨y,tm',tv',m',h1,h2,h3,h4,h5,h6⟩;cases e with
 |normal=>refine wpIn_mono (h1 h5 F y tv' m' w' a' b0 rfl h2 (hG.adv st.fits h3 h4) h6.here ro hro) ?_;rintro e a'' w'' ⟨z,tm'',tv'',m'',g1,g2,g3,g4,g5,g6⟩;exact⟨z,tm'',tv'',m'',g1,g2,h3.trans g3,h4.trans g4,g5,h6.trans g6⟩
 |_=>exact⟨y,tm',tv',m',h1,h2,h3,h4,h5,h6⟩
theorem WPU.skip(h:Q .normal tm σ):WPU C n0 .skip tm σ Q:=fun hn F x tv m w a b0 hx st hG hd ro hro=>wpIn_skip ⟨x,tm,tv,m,hx ▸ h,st,bA.refl st.fits,Ke.refl _ _,hx ▸ hn,hd⟩
theorem WPU.ret(h:Q .ret tm σ):WPU C n0 .ret tm σ Q:=fun hn F x tv m w a b0 hx st hG hd ro hro=>wpIn_ret ⟨x,tm,tv,m,hx ▸ h,st,bA.refl st.fits,Ke.refl _ _,hx ▸ hn,hd⟩
theorem WPU.exit{id:Nat}(h:Q (.exit id) tm σ):WPU C n0 (.exit id) tm σ Q:=fun hn F x tv m w a b0 hx st hG hd ro hro=>wpIn_exit ⟨x,tm,tv,m,hx ▸ h,st,bA.refl st.fits,Ke.refl _ _,hx ▸ hn,hd⟩
theorem WPU.cond{c:Operand}{p q:Code}{t:Bool}(hc:bD tm c=some (.bool t))(h1:t=true->WPU C n0 p tm σ Q)(h2:t=false->WPU C n0 q tm σ Q):WPU C n0 (.cond c p q) tm σ Q:=fun hn F x tv m w a b0 hx st hG hd ro hro=>by
 obtain⟨v,e1,e2⟩:=dP st.e hc;simp only[aA]at e2;subst e2;have he:=(st.act.evalO e1).at;simp only[ren]at he;rcases t with _|_;exact wpIn_cond_false he.symm (h2 rfl hn F x tv m w a b0 hx st hG hd ro hro);exact wpIn_cond_true he.symm (h1 rfl hn F x tv m w a b0 hx st hG hd ro hro)
def pS(id:Nat)(Q:Exit->List U->Sg->Prop):Exit->List U->Sg->Prop
 |.exit id',tm,s=>if id'=id then Q .normal tm s else Q (.exit id') tm s|e,tm,s=>Q e tm s
theorem aL{id:Nat}{c:Code}(h:WPU C n0 c tm σ (pS id Q)):WPU C n0 (.block id c) tm σ Q:=fun hn F x tv m w a b0 hx st hG hd ro hro=>by
 refine wpIn_block (wpIn_mono (h hn F x tv m w a b0 hx st hG hd ro hro) ?_);rintro e a' w' ⟨y,tm',tv',m',h1,h2⟩;cases e with
 |exit id'=>simp only[Exit.inBlock];simp only[pS]at h1;by_cases hid:id'=id;simp only[hid,if_true]at h1 ⊢;exact⟨y,tm',tv',m',h1,h2⟩;simp only[hid,if_false]at h1 ⊢;exact⟨y,tm',tv',m',h1,h2⟩|_=>exact⟨y,tm',tv',m',h1,h2⟩
theorem WPU.loop{c:Code}(I:Nat->List U->Sg->Prop)(n:Nat)(xZ:I n tm σ)(round:∀n tm σ,I n tm σ->WPU C n0 c tm σ (tE (fun tm' σ'=>∃n',n'<n/\I n' tm' σ') Q)):WPU C n0 (.loop c) tm σ Q:=by
 intro hn F x tv m w a b0 hx st hG hd ro hro b k cs hbr hb hr;have key:∀n tm σ,I n tm σ->n0<=σ.nx->∀x tv m w a,x.σ=σ->St F x tm tv m w a->IF C n0 x m w->DR C b0 a.defers w a.defers->∃e a' w',Kk C n0 F x m w a.defers b0 Q e a' w'/\ArrivesIn (Machine.fenced C.prog (qI ro)) C.prog (lone (b.atR a (.code c :: .inLoop c::k)) cs w) b k cs e a' w':=by
  intro n;induction n using Nat.strongRecOn with
  |_ n ih=>
   intro tm σ hI hn x tv m w a hx st hG hd;obtain⟨e,aS,w₁,⟨y,mK,mJ,aF,hq,hst,hadv,hke,hnx,hdf⟩,harr⟩:=round n tm σ hI hn F x tv m w a b0 hx st hG hd ro hro b (.inLoop c::k) cs hbr hb hr;cases e with
   |normal=>obtain⟨n',hlt,hI'⟩:=hq;obtain⟨Tq,Uj,sX,⟨z,TM,TL,xH,Z4,NC,E7,NJ,NF,NN⟩,E6⟩:=ih n' hlt mK y.σ hI' hnx y mJ aF w₁ aS rfl hst (hG.adv st.fits hadv hke) hdf.here;exact⟨Tq,Uj,sX,⟨z,TM,TL,xH,Z4,NC,hadv.trans E7,hke.trans NJ,NF,hdf.trans NN⟩,.of_steps (StepsIn.trans harr (.one (fenced_calm hb hr rfl) stepR_inLoop)) E6⟩
   |exit id=>exact⟨_,aS,w₁,⟨y,mK,mJ,aF,hq,hst,hadv,hke,hnx,hdf⟩,.pass (x:=.inLoop c) rfl (fun _ _=>.inl (by simp)) harr⟩|goto l=>exact⟨_,aS,w₁,⟨y,mK,mJ,aF,hq,hst,hadv,hke,hnx,hdf⟩,.pass (x:=.inLoop c) rfl (fun _ _=>.inl (by simp)) harr⟩
   |ret=>exact⟨_,aS,w₁,⟨y,mK,mJ,aF,hq,hst,hadv,hke,hnx,hdf⟩,.pass (x:=.inLoop c) rfl (fun _ _=>.inl (by simp)) harr⟩|panic ch=>exact⟨_,aS,w₁,⟨y,mK,mJ,aF,hq,hst,hadv,hke,hnx,hdf⟩,.pass (x:=.inLoop c) rfl (fun _ _=>.inl (by simp)) harr⟩
   |outgrown=>exact⟨_,aS,w₁,⟨y,mK,mJ,aF,hq,hst,hadv,hke,hnx,hdf⟩,.pass (x:=.inLoop c) rfl (fun _ _=>.inl (by simp)) harr⟩
 obtain⟨e,a',w',hq,harr⟩:=key n tm σ xZ hn x tv m w a hx st hG hd;exact⟨e,a',w',hq,.of_steps (.one (fenced_calm hb hr rfl) stepR_loop) harr⟩
def Gh(n0:Nat)(tm:List U)(σ:Sg)(tm':List U)(σ':Sg):Prop :=
 ∀F x tv,x.σ=σ->eQ x->Fr F x->aQ x tm tv->∃y,(∀m w,dS m x.s w->bA m x.s w m y.s w)/\y.σ=σ'/\eQ y/\Fr F y/\aQ y tm' tv/\Ke n0 x y
theorem Gh.refl(n0:Nat)(tm:List U)(σ:Sg):Gh n0 tm σ tm σ:=fun F x tv hx h hf he=>⟨x,fun m w hf=>bA.refl hf,hx,h,hf,he,Ke.refl _ _⟩
theorem Gh.trans{tm' tm'':List U}{σ' aN:Sg}(h:Gh n0 tm σ tm' σ')(h':Gh n0 tm' σ' tm'' aN):Gh n0 tm σ tm'' aN:=fun F x tv hx hh hf he=>by
 obtain⟨y,h1,h2,h3,h4,h5,h6⟩:=h F x tv hx hh hf he;obtain⟨z,g1,g2,g3,g4,g5,g6⟩:=h' F y tv h2 h3 h4 h5;exact⟨z,fun m w hf=>(h1 m w hf).trans (g1 m w (h1 m w hf).fits),g2,g3,g4,g5,h6.trans g6⟩
theorem cR{c:Code}{tm':List U}{σ':Sg}(h:Gh n0 tm σ tm' σ')(hn':n0<=σ'.nx)(hw:WPU C n0 c tm' σ' Q):WPU C n0 c tm σ Q:=fun hn F x tv m w a b0 hx st hG hd ro hro=>by
 obtain⟨y,h1,h2,h3,h4,h5,h6⟩:=h F x tv hx st.h st.fr st.e;have hadv:=h1 m w st.fits;refine wpIn_mono (hw hn' F y tv m w a b0 h2 ⟨h3,h4,h5,hadv.fits,st.act.ext hadv.agree hadv.nx⟩ (hG.adv st.fits hadv h6) hd ro hro) ?_;rintro e a' w' ⟨z,tm'',tv'',m'',g1,g2,g3,g4,g5,g6⟩;exact⟨z,tm'',tv'',m'',g1,g2,hadv.trans g3,h6.trans g4,g5,g6⟩
theorem WPU.after{c:Code}{Q':Exit->List U->Sg->Prop}(h:WPU C n0 c tm σ Q')(hq:∀e tm σ,n0<=σ.nx->Q' e tm σ->∃tm' σ',n0<=σ'.nx/\Gh n0 tm σ tm' σ'/\Q e tm' σ'):WPU C n0 c tm σ Q:=fun hn F x tv m w a b0 hx st hG hd ro hro=>by
 refine wpIn_mono (h hn F x tv m w a b0 hx st hG hd ro hro) ?_;rintro e a' w' ⟨y,tm',tv',m',h1,h2,h3,h4,h5,h6⟩;obtain⟨tm'',aN,q1,q2,q3⟩:=hq e tm' y.σ h5 h1;obtain⟨z,g1,g2,g3,g4,g5,g6⟩:=q2 F y tv' rfl h2.h h2.fr h2.e;have hadv:=g1 m' w' h2.fits;exact⟨z,tm'',tv',m',g2 ▸ q3,⟨g3,g4,g5,hadv.fits,h2.act.ext hadv.agree hadv.nx⟩,h3.trans hadv,h4.trans g6,g2 ▸ q1,h6⟩
variable{T:Tb}(hT:eZ C.prog T)
include hT
theorem PA(ops:Array Oper)(E:Exit->Act->World->Prop){F:Nat->i5->Prop}{x0:Cx}{m0:Nm}{w0:World}{df:List Deferred}(K:List U->Sg->Prop)(C5:IF C n0 x0 m0 w0)(hf0:dS m0 x0.s w0)(ro:Option Nat)(hro:C.ro ro):
  ∀(rest:List Oper)(i:Nat),ops.toList.drop i=rest->∀(x:Cx)(tm:List U)(tv:List Value)(m:Nm)(w:World)(a:Act),St F x tm tv m w a->a.defers=df->bA m0 x0.s w0 m x.s w->Ke n0 x0 x->n0<=x.σ.nx->RU C T ops.toList rest tm x.σ K->
   (∀y tm' tv' m' w' a',K tm' y.σ->St F y tm' tv' m' w' a'->bA m0 x0.s w0 m' y.s w'->Ke n0 x0 y->n0<=y.σ.nx->a'.defers=df->E .normal a' w')->wpOpsIn (qI ro) 0 C.prog ops E (List.range' i rest.length) a w
 |[],i,_,x,tm,tv,m,w,a,st,hd,hadv,hke,hn,h,hQ=>by simp only[zS,List.range'_zero,wpOpsIn];exact hQ x tm tv m w a h st hadv hke hn hd
 |o::rest,i,hdr,x,tm,tv,m,w,a,st,hd,hadv,hke,hn,h,hQ=>by
  have ho:ops[i]? = some o:=by have:=congrArg (fun l=>l[0]?) hdr;simpa using this
  have hd':ops.toList.drop (i+1)=rest:=by have:=congrArg List.tail hdr;simpa using this
  simp only[zO,List.range'_succ,wpOpsIn,ho,Pg (st.act m (aG.refl _ _)) ops o];simp only[RU]at h;rcases h with⟨hw,u,σ',h1,h2⟩|⟨hw,f,args,R,h1,h2,h3⟩|⟨hw,h1⟩|⟨hw,t,xo,yo,ty,e,b,l,h1,h2,h3,h4,h5⟩|⟨hw,R,h1,h2⟩;rw[wW st.e hw];simp only[if_true];refine oM (FJ h1) (st.op hT o h1 fun y tv' aF w₁ aS e1 st' hadv' hke' hnx hdf=>?_);exact PA ops E K C5 hf0 ro hro rest (i+1) hd' y _ tv' aF w₁ aS st' (hdf.trans hd) (hadv.trans hadv') (hke.trans (hke'.le hn)) (by omega) (e1 ▸ h2) hQ;rw[wW st.e hw];simp only[if_true];refine oM (Eb h1) (st.call hT o h1 h2 fun y u tv' aF w₁ aS hR st' hadv' hke' hnx hdf=>?_);exact PA ops E K C5 hf0 ro hro rest (i+1) hd' y _ tv' aF w₁ aS st' (hdf.trans hd) (hadv.trans hadv') (hke.trans (hke'.le hn)) (by omega) (h3 u y.σ hR) hQ;rw[wW st.e hw];simp only[Bool.false_eq_true,if_false];exact⟨fun _ _=>trivial,PA ops E K C5 hf0 ro hro rest (i+1) hd' x _ _ m w _ (st.skip o.dst) ((wY _ _ _).trans hd) hadv hke hn h1 hQ⟩;rw[wW st.e hw];simp only[if_true];refine oM (by rw[h1];intro c hc;cases hc) (st.nilq hT o h1 h2 h3 h4 fun z y tv' aF w₁ aS hz e1 st' hadv' hke' hnx hdf=>?_);exact PA ops E K C5 hf0 ro hro rest (i+1) hd' y _ tv' aF w₁ aS st' (hdf.trans hd) (hadv.trans hadv') (hke.trans (hke'.le hn)) (by omega) (e1 ▸ h5 z hz) hQ;rw[wW st.e hw];simp only[if_true];refine h1 F x tv m w a _ _ rfl st ⟨Nat.le_trans C5.nb hn,(C5.adv hf0 hadv hke).g⟩ (fun u y tv' aF w₁ aS hR st' hadv' hke' hnx hdf=>?_) ro hro;exact PA ops E K C5 hf0 ro hro rest (i+1) hd' y _ tv' aF w₁ aS st' (hdf.trans hd) (hadv.trans hadv') (hke.trans (hke'.le hn)) (by omega) (h2 u y.σ hR) hQ
theorem WPU.region{id:Nat}{ops:Array Oper}(h:RU C T ops.toList ops.toList tm σ (fun tm' σ'=>Q .normal tm' σ')):WPU C n0 (.region id ops false) tm σ Q:=fun hn F x tv m w a b0 hx st hG hd ro hro=>by
 subst hx;refine wpIn_region ?_;have:=PA hT ops (Kk C n0 F x m w a.defers b0 Q) (F:=F) (x0:=x) (m0:=m) (w0:=w) (df:=a.defers) (fun tm' σ'=>Q .normal tm' σ') hG st.fits ro hro ops.toList 0 (by simp) x tm tv m w a st rfl (bA.refl st.fits) (Ke.refl _ _) hn h
  (fun y tm' tv' m' w' a' h1 h2 h3 h4 h5 h6=>⟨y,tm',tv',m',h1,h2,h3,h4,h5,by rw[h6];exact hd.adv st.fits h3⟩)
 rw[List.range_eq_range'];simpa using this
end
def gD(T:Tb)(σ:Sg)(tm:List U):List ResultVar->Option (List U)
 |[]=>some []|.tmp t::r=>match nth tm t with
  |some v=>(match gD T σ tm r with
   |some l=>some (v::l)|none=>none)
  |none=>none
 |.cell a t::r=>match kN T σ tm (.load t (.tmp a))with
  |some v=>(match gD T σ tm r with
   |some l=>some (v::l)|none=>none)
  |none=>none
def i9:List U->U
 |[v]=>v|l=>.tup l
theorem Mx{T:Tb}{x:Cx}(hx:eQ x){tm:List U}{tv:List Value}(ht:aQ x tm tv):∀{rs:List ResultVar}{us:List U},gD T x.σ tm rs=some us->∃vs,uR T tv x.s rs=some vs/\aQ x us vs
 |[],us,h=>by simp only[gD,zA]at h;subst h;exact⟨[],rfl,aQ.nil x⟩
 |.tmp t::rs,us,h=>by simp only[gD,eR]at h;rcases h1:tm[t]? with _|u;simp[h1]at h;rcases h2:gD T x.σ tm rs with _|l;simp[h1,h2]at h;simp only[h1,h2,zA]at h;subst h;obtain⟨v,e1,e2⟩:=ht.get h1;obtain⟨vs,e3,e4⟩:=Mx hx ht h2;exact⟨v::vs,by simp[uR,eR,e1,e3],aQ.cons e2 e4⟩
 |.cell a t::rs,us,h=>by
  simp only[gD]at h;rcases h1:kN T x.σ tm (.load t (.tmp a))with _|u;simp[h1]at h;rcases h2:gD T x.σ tm rs with _|l;simp[h1,h2]at h;simp only[h1,h2,zA]at h;subst h;obtain⟨v,y,e1,e2,e3,e4⟩:=Zb hx ht h1;obtain⟨vs,e5,e6⟩:=Mx hx ht h2;have hp:eF T tv (.load t (.tmp a))=none:=rfl;have he:lW T tv x.s (.load t (.tmp a))=none:=rfl;have hc:callOf T tv (.load t (.tmp a))=none:=rfl;unfold pV at e1;simp only[hp,he,hc]at e1;rcases hrd:iV T tv x.s (.load t (.tmp a))with _|v';simp[hrd]at e1;simp only[hrd,zA,zB]at e1;obtain⟨rfl,hs⟩:=e1;refine⟨v'::vs,by simp[uR,hrd,e5],aQ.cons ?_ e6⟩;have hmo:Mo y.σ.nx y x:=by refine⟨fun k hk hk'=>?_,fun i row e hl=>by rw[hs];exact hl⟩;rw[e2]at hk' ⊢;refine⟨hk',fun b hb=>⟨b,hb,zF _,fun _=>⟨?_,fun l e sz st h=>⟨l,h⟩⟩⟩⟩;have:=(e4.mo.ref k (by rw[<-e2];exact hk) hk').2 b (by rw[e2];exact hb);obtain⟨b',q1,q2,q3⟩:=this;rw[hb]at q1;cases q1;exact(q3 rfl).1.symm
  exact hmo.ke u _ (aA.bel _ _ e3) e3
theorem lf{us:List U}{vs:List Value}(h:aQ x us vs):aA x (i9 us) (uU vs):=by
 match us,vs,h with
 |[],vs,h=>rw[h.nil_inv];simp only[i9,uU,aA];exact⟨[],rfl,by simp[bN],rfl⟩|[u],vs,h=>obtain⟨v,vs',rfl,h1,h2⟩:=h.inv;rw[h2.nil_inv];exact h1
 |u::u'::us,vs,h=>obtain⟨v,vs',rfl,h1,h2⟩:=h.inv;obtain⟨v',vs'',rfl,h3,h4⟩:=h2.inv;simp only[i9,uU,aA];exact⟨_,rfl,h.1,h.2⟩
def uT:Nat->List U->List U
 |0,l=>l|n+1,[]=>.tup []::uT n []
 |n+1,v::l=>v::uT n l
theorem Ng{x:Cx}:∀(n:Nat){us:List U}{vs:List Value},aQ x us vs->aQ x (uT n us) (pad n vs)
 |0,us,vs,h=>h|n+1,[],vs,h=>by rw[h.nil_inv];exact aQ.cons (by simp only[aA];exact⟨[],rfl,by simp[bN],rfl⟩) (Ng n (aQ.nil x))
 |n+1,u::us,vs,h=>by obtain⟨v,vs',rfl,h1,h2⟩:=h.inv;exact aQ.cons h1 (Ng n h2)
section
variable{P:Program}{T:Tb}(hT:eZ P T)
include hT
theorem P4{f:FuncId}{fn:Func}{c:Code}{args:List U}{σ:Sg}{R:U->Sg->Prop}(hf:T.fn f=some fn)(hb:fn.body=some c)
  (h:WPU (PG.of P) σ.nx c (uT fn.ntmps args) σ fun e tm' σ'=>(e=.normal\/e=.ret)/\∃l,gD T σ' tm' fn.results.toList=some l/\∃u' aN,σ.nx<=aN.nx/\Gh σ.nx [i9 l] σ' [u'] aN/\R u' aN):aO P f args σ R:=fun F x vs m w cargs hx hh hfr he hfit hargs=>by
 obtain⟨hf0,_⟩:=hT.fn f fn hf;have hcl:cargs.length=vs.length:=by rw[<-hargs.at];simp
 refine calls_of_wp hf0 hb ?_;have hact:qK m x.s.nx (pad fn.ntmps vs) { tmps:=cargs.toArray++Array.replicate (fn.ntmps-cargs.toArray.size) undef,defers:=[] }:=fun m' hm'=>by simp only[LV,BO,hargs m' hm',hcl,List.size_toArray];apply Array.ext';simp[hX,ren,undef]
 refine wp_mono ((wpIn_wide (n:=0)).1 (h (zF _) F x _ m w _ 0 hx ⟨hh,hfr,Ng _ he,hfit,hact⟩ ⟨Nat.zero_le _,trivial⟩ ⟨fun _=>rfl,fun h=>by cases h⟩ none trivial)) ?_;rintro e a' w' ⟨y,tm',tv',m',⟨hex,l,hres,u',aN,hnx,hgh,hR⟩,st',hadv,hke,hn,Te⟩;have hdf:a'.defers=[]:=Te.eq rfl;obtain⟨ls,hres',hrl⟩:=Mx st'.h st'.e hres;have hrun:∀m'',aG y.s.nx m' m''->(results fn a'.tmps).run P w'=.ok (ren m'' (uU ls)) w':=fun m'' hm''=>by rw[st'.act m'' hm''];exact J' hT (st'.fits m'' hm'') hres'
 have hrel:cZ m' y.s.nx (uU ls) (ren m' (uU ls)):=fun m'' hm''=>by have e1:=hrun m'' hm'';rw[hrun m' (aG.refl _ _)]at e1;simp at e1;exact e1.symm
 obtain⟨z,z1,z2,z3,z4,z5,z6⟩:=hgh F y [uU ls] rfl st'.h st'.fr (aQ.cons (lf hrl) (aQ.nil y));obtain⟨v0,SR,e0,z7,_⟩:=z5.inv;cases e0;have hadv2:=z1 m' w' st'.fits;have hpost:bodyPost P fn (fun e w₁=>∃y aF u v cv,e=.returned cv/\R u y.σ/\bA m x.s w aF y.s w₁/\cZ aF y.s.nx v cv/\eQ y/\Fr F y/\aA y u v/\Ke x.σ.nx x y/\x.σ.nx<=y.σ.nx) .ret a' w' :=
  ⟨hdf,_,hrun m' (aG.refl _ _),z,m',u',uU ls,_,rfl,z2 ▸ hR,hadv.trans hadv2,hrel.ext (aG.refl _ _) hadv2.nx,z3,z4,z7,hx ▸ hke.trans z6,by rw[hx,z2];exact hnx⟩
 rcases hex with rfl |rfl;exact hpost;exact hpost
end
theorem aO.mono{P:Program}{f:FuncId}{args:List U}{σ:Sg}{R R':U->Sg->Prop}(h:aO P f args σ R)(hr:∀u σ',R u σ'->R' u σ'):aO P f args σ R':=fun F x vs m w cargs hx hh hfr he hfit hargs=>
 (h F x vs m w cargs hx hh hfr he hfit hargs).mono fun _ _ ⟨y,aF,u,v,cv,h1,h2,h3⟩=>⟨y,aF,u,v,cv,h1,hr _ _ h2,h3⟩
end Go.Vx
namespace Go.Vx
open Go Go.Rx
theorem aO.pure{P:Program}{f:FuncId}{args:List U}{R:U->Prop}(h:aO P f args ⟨[],0⟩ (fun u _=>R u/\aJ 0 u))(ha:aE 0 args)(σ:Sg):aO P f args σ (fun u σ'=>R u/\σ'=σ):=fun F x vs m w cargs hx hh hfr he hfit hargs=>by
 have h0:eQ ⟨fun _=>none,⟨[],0⟩,x.s⟩:=⟨fun k b hb=>by simp[gt]at hb,fun k k' b b' i hb=>by simp[gt]at hb,hh.bd⟩;have Z8:Mo 0 x ⟨fun _=>none,⟨[],0⟩,x.s⟩:=⟨fun k hk=>by omega,fun _ _ _ h=>h⟩;refine(h (fun i b=>lk x.s.h i=some b) ⟨fun _=>none,⟨[],0⟩,x.s⟩ vs m w cargs rfl h0 (fun i b hb=>⟨hb,fun k c hc=>by simp[gt]at hc⟩) (Z8.ke.E ha he) hfit hargs).mono ?_;rintro e w₁ ⟨y,aF,u,v,cv,rfl,⟨hR,hcl⟩,hadv,hrel,hhy,hfry,hru,_,_⟩;have hmo:Mo x.σ.nx x ⟨x.ρ,x.σ,y.s⟩:=⟨fun k _ h2=>⟨h2,fun b hb=>⟨b,hb,zF _,fun _=>⟨rfl,fun l e sz st h=>⟨l,h⟩⟩⟩⟩,fun i row e hl=>(hfry i _ hl).1⟩;have Sx:Mo 0 y ⟨x.ρ,x.σ,y.s⟩:=⟨fun k hk=>by omega,fun _ _ _ h=>h⟩;refine⟨⟨x.ρ,x.σ,y.s⟩,aF,u,v,cv,rfl,⟨hR,hx⟩,hadv,hrel,⟨fun k b hb=>?_,hh.inj,hhy.bd⟩,fun i b hb=>?_,Sx.ke u v hcl hru,hmo.ke,zF _⟩;obtain⟨h1,h2⟩:=hh.ok k b hb;exact⟨h1,h2.mono hmo rfl fun i c _ hl=>(hfry i c hl).1⟩;obtain⟨h1,h2⟩:=hfr i b hb;exact⟨(hfry i b h1).1,h2⟩
def BelB(n:Nat):B->Prop
 |.row l _=>aE n l|.vec l _ _ _=>aE n l
 |.map es _=>∀e∈es,aJ n e.key/\aJ n e.val
def uW(n:Nat):List (Nat×B)->Prop
 |[]=>True|(_,b)::h=>BelB n b/\uW n h
def cut(n:Nat):List (Nat×B)->List (Nat×B)
 |[]=>[]|(k,b)::h=>cond (Nat.blt k n) ((k,b)::cut n h) (cut n h)
theorem Q1(n:Nat)(h:List (Nat×B))(k:Nat):gt (cut n h) k=if k<n then gt h k else none:=by
 induction h with|nil=>simp[cut,gt]|cons p h ih=>obtain⟨j,b⟩:=p;simp only[cut];by_cases hj:j<n;rw[kF hj];simp only[zC,aK,ih];by_cases hjk:j=k;subst hjk;simp[hj];simp[hjk];rw[BI hj];simp only[zD,aK,ih];by_cases hjk:j=k;subst hjk;simp[hj];simp[hjk]
theorem bk{n:Nat}{h:List (Nat×B)}(hb:uW n h){k:Nat}{b:B}(hg:gt h k=some b):BelB n b:=by
 induction h with|nil=>simp[gt]at hg|cons p h ih=>obtain⟨j,c⟩:=p;simp only[uW]at hb;simp only[aK]at hg;split at hg;cases hg;exact hb.1;exact ih hb.2 hg
theorem iZ.monoB{n:Nat}{x y:Cx}{k:Nat}{b:B}(h:iZ x k b)(hb:BelB n b)(hm:Mo n x y)(hρ:y.ρ k=x.ρ k)(hl:∀i c,x.ρ k=some i->lk x.s.h i=some c->lk y.s.h i=some c):iZ y k b:=by
 cases b with
 |row l e=>obtain⟨k1,i,l',e1,e2,e3⟩:=h;exact⟨k1,i,l',by rw[hρ,e1],hl _ _ e1 e2,hm.ke.E hb e3⟩
 |vec l e sz st=>obtain⟨k1,k2,h3⟩:=h;refine⟨k1,k2,?_⟩;rcases h3 with⟨h3,h4⟩|⟨i,l',e1,e2,e3⟩;exact .inl ⟨h3,by rw[hρ,h4]⟩;exact .inr ⟨i,l',by rw[hρ,e1],hl _ _ e1 e2,hm.ke.E hb e3⟩
 |map es cl=>obtain⟨i,es',e1,e2,e3⟩:=h;refine⟨i,es',by rw[hρ,e1],hl _ _ e1 e2,e3.1,fun j e he=>?_⟩;obtain⟨v,q1,q2,q3,q4⟩:=e3.2 j e he;have:=hb e (zX he);exact⟨v,q1,hm.ke _ _ this.1 q2,hm.ke _ _ this.2 q3,q4⟩
def CQ:List Bool->List U->List U
 |true::l,_::tm=>.junk::CQ l tm|false::l,u::tm=>u::CQ l tm
 |_,tm=>tm
theorem Ou{x:Cx}:∀(l:List Bool){tm:List U}{tv:List Value},aQ x tm tv->aQ x (CQ l tm) tv
 |[],tm,tv,h=>by cases tm<;>exact h
 |true::l,[],tv,h=>h|false::l,[],tv,h=>h
 |true::l,u::tm,tv,h=>by obtain⟨v,vs,rfl,h1,h2⟩:=h.inv;exact aQ.cons (by simp[aA]) (Ou l h2)
 |false::l,u::tm,tv,h=>by obtain⟨v,vs,rfl,h1,h2⟩:=h.inv;exact aQ.cons h1 (Ou l h2)
theorem Gh.junk(n0:Nat)(l:List Bool)(tm:List U)(σ:Sg):Gh n0 tm σ (CQ l tm) σ:=fun F x tv hx h hf he=>⟨x,fun m w hf=>bA.refl hf,hx,h,hf,Ou l he,Ke.refl _ _⟩
theorem Gh.cut{n0 n1:Nat}{tm:List U}{σ:Sg}(h1:n0<=n1)(h2:n1<=σ.nx)(hb:aE n1 tm)(hh:uW n1 (Vx.cut n1 σ.h)):Gh n0 tm σ tm ⟨Vx.cut n1 σ.h,n1⟩:=fun F x tv hx hr hf he=>by
 subst hx;have hmo:Mo n1 x ⟨x.ρ,⟨Vx.cut n1 x.σ.h,n1⟩,x.s⟩:=by refine⟨fun k hk _=>⟨hk,fun b hb=>?_⟩,fun _ _ _ h=>h⟩;simp only[Q1,hk,if_true]at hb;exact⟨b,hb,zF _,fun _=>⟨rfl,fun l e sz st h=>⟨l,h⟩⟩⟩
 have sub:∀{k b},gt (Vx.cut n1 x.σ.h) k=some b->k<n1/\gt x.σ.h k=some b:=fun{k b} hg=>by simp only[Q1]at hg;split at hg;exact⟨by assumption,hg⟩;cases hg
 refine⟨⟨x.ρ,⟨Vx.cut n1 x.σ.h,n1⟩,x.s⟩,fun m w hf=>bA.refl hf,rfl,⟨fun k b hg=>?_,fun k k' b b' i g1 g2=>hr.inj k k' b b' i (sub g1).2 (sub g2).2,hr.bd⟩,fun i b J=>?_,hmo.ke.E hb he,hmo.ke.le h1⟩;exact⟨(sub hg).1,(hr.ok k b (sub hg).2).2.monoB (bk hh hg) hmo rfl fun _ _ _ h=>h⟩;exact⟨(hf i b J).1,fun k c hc=>(hf i b J).2 k c (sub hc).2⟩
theorem Yt{l:List Value}{i:Nat}{v:Value}(h:l[i]? = some v):l.set i v=l:=by
 apply List.ext_getElem?;intro j;rw[List.getElem?_set];split;rename_i e;subst e;have:=(zG.1 h).1;simp only[this,if_true];exact h.symm;rfl
theorem Gh.nilvec{n0:Nat}{tm:List U}{σ:Sg}(i:Nat)(e:TypeId)(sz:Nat)(hsz:0<sz)(h0:n0<=σ.nx)(hi:nth tm i=some .nils):Gh n0 tm σ (tm.set i (.vl σ.nx 0 0 0)) (newU σ (.vec [] e sz 0)):=fun F x tv hx hr hf he=>by
 subst hx;have ho:=Pi hr e sz hsz;rw[eR]at hi;obtain⟨v,h1,h2⟩:=he.get hi;simp only[aA]at h2;subst h2;refine⟨⟨hJ x.ρ x.σ.nx none,newU x.σ (.vec [] e sz 0),x.s⟩,fun m w hf=>bA.refl hf,rfl,ho.h,ho.fr F hf,?_,ho.mo.ke.le h0⟩;have:=(ho.mo.ke.E he.bel he).set i (Qm (x:=x) (e:=e) (sz:=sz) (o:=none) (by simp))
 rwa [Yt h1]at this
theorem bA.freeze{m:Nm}{s:S}{w:World}(h:dS m s w){i:Nat}{l:List Value}{e md e1:Nat}(hl:lk s.h i=some (.inl (l,e,md)))(hmd:md=0/\e1=0\/∃sz,md=sz+2/\e1=sz+1):
  bA m s w m ⟨up s.h i (.inl (l,e1,1)),s.nx⟩ w:=by
 have old:∀j c,lk (up s.h i (.inl (l,e1,1))) j=some c->∃d,lk s.h j=some d/\(Own c=true->Own d=true)/\(j≠i->c=d):=fun j c hc=>by simp only[tF]at hc;by_cases hij:i=j;subst hij;simp only[if_true,hl,zM,zA]at hc;subst hc;exact⟨_,hl,fun h=>by simp[Own]at h,fun h=>absurd rfl h⟩;simp only[hij,if_false]at hc;exact⟨c,hc,id,fun _=>rfl⟩
 refine⟨aG.refl _ _,zF _,fun m' ha=>?_,?_,fun _ _ _=>rfl,zF _,rfl,rfl,rfl⟩;have hf:=h m' ha;refine⟨fun j c hc=>?_,fun j k c d hc hd hjk ho=>?_,fun j c hc=>?_⟩;by_cases hij:j=i;subst hij;simp only[tF,if_true,hl,zM,zA]at hc;subst hc;have hr:pN m' j l e w md:=hf.ok j _ hl;rcases hmd with⟨rfl,rfl⟩|⟨sz,rfl,rfl⟩;obtain⟨h0,h1⟩:=hr;exact⟨_,_,_,h1,fun k v hk=>by simp[h0,hX,hk],fun n hn=>absurd hn (by simp)⟩;obtain⟨pr,rest,h1,h2,h3⟩:=hr;refine⟨_,_,_,h1,fun k v hk=>?_,fun n hn=>?_⟩;have hlt:k<l.length:=(zG.1 hk).1;simp only[List.getElem?_toArray,zT,<-h2];rw[List.getElem?_append_right (by omega),Nat.add_sub_cancel_left,List.getElem?_append_left (by simpa using hlt)];simp[hX,hk];have:n=sz:=(Nat.succ.inj hn).symm;subst this;exact Nat.le_of_add_right_le (Nat.le_of_eq h3);obtain⟨d,h1,_,h3⟩:=old j c hc;rw[h3 hij];exact hf.ok j d h1;obtain⟨c',h1,h2,_⟩:=old j c hc;obtain⟨d',h3,_,_⟩:=old k d hd;exact hf.inj j k c' d' h1 h3 hjk (h2 ho);obtain⟨d,h1,_⟩:=old j c hc;exact hf.bd j d h1;rintro b ⟨j,c,hc,ho,rfl⟩;obtain⟨d,h1,h2,_⟩:=old j c hc;exact .inl ⟨j,d,h1,h2 ho,rfl⟩
def bC(sz:Nat):Nat->List U->List (List U)
 |0,_=>[]|n+1,l=>l.take sz::bC sz n (l.drop sz)
theorem Qi(sz n:Nat)(l:List U):(bC sz n l).length=n:=by
 induction n generalizing l with|zero=>rfl|succ n ih=>simp[bC,ih]
theorem Qh{x:Cx}{sz:Nat}:∀(n:Nat){l:List U}{vs:List Value},bN x l vs->okL l=true->n*sz<=l.length->eD x sz (bC sz n l) vs
 |0,l,vs,h,hk,hl=>by simp[bC,eD]
 |n+1,l,vs,h,hk,hl=>by rw[Nat.succ_mul]at hl;simp only[bC,eD];refine⟨by simp;omega,FT hk _,?_,Qh n (h.drop sz) (vB hk _) (by simp;omega)⟩;rw[wS]at h ⊢;intro i u hu;rw[List.getElem?_take]at hu;split at hu;exact h i u hu;cases hu
mutual
def fz(K:Nat)(b:B)(sz:Nat):U->U
 |.sl k off n c=>cond (Nat.beq k K) (match b with
  |.row l _=>if off+n*sz<=l.length then .isl false (bC sz n (l.drop off))else .sl k off n c|_=>.sl k off n c) (.sl k off n c)
 |.vl k st off n=>cond (Nat.beq k K) (match b with
  |.vec l _ sz' st'=>if st'=st/\(off+n)*sz'<=l.length then .isl false (bC sz' n (l.drop (off*sz')))else .vl k st off n|_=>.vl k st off n) (.vl k st off n)
 |.ptr k st off=>cond (Nat.beq k K) (match b with
  |.row l _=>if st=0 then .iptr (l.drop off)else .ptr k st off|_=>.ptr k st off) (.ptr k st off)
 |.agg l=>.agg (fF K b sz l)|.tup l=>.tup (fF K b sz l)
 |.fn f a c=>.fn f (fF K b sz a) (fF K b sz c)|u=>u
def fF(K:Nat)(b:B)(sz:Nat):List U->List U
 |[]=>[]|u::l=>fz K b sz u::fF K b sz l
end
def fzB(K:Nat)(b:B)(sz:Nat):B->B
 |.row l e=>.row (fF K b sz l) e|.vec l e s st=>.vec (fF K b sz l) e s st
 |.map es cl=>.map (es.map fun e=>{ e with val:=fz K b sz e.val }) cl
def fzH(K:Nat)(b:B)(sz:Nat):List (Nat×B)->List (Nat×B)
 |[]=>[]|(k,c)::h=>cond (Nat.beq k K) (fzH K b sz h) ((k,fzB K b sz c)::fzH K b sz h)
theorem wO(K:Nat)(b:B)(sz:Nat)(h:List (Nat×B))(k:Nat):gt (fzH K b sz h) k=if k=K then none else(gt h k).map (fzB K b sz):=by
 induction h with|nil=>simp[fzH,gt]|cons p h ih=>obtain⟨j,c⟩:=p;simp only[fzH,beq_eq];by_cases hj:j=K;subst hj;simp only[yC,zC,ih,aK];by_cases hk:k=j;simp[hk];simp[hk,Ne.symm hk];simp only[hj,yB,zD,aK,ih];by_cases hk:j=k;subst hk;simp[hj];simp[hk]
theorem NS(K:Nat)(b:B)(sz:Nat)(c:B):(fzB K b sz c).st=c.st:=by cases c<;>rfl
theorem NQ(K:Nat)(b:B)(sz:Nat)(u:U)(h:okC u=true):okC (fz K b sz u)=true:=by
 cases u with
 |sl k off n c=>
  simp only[fz];rcases Nat.beq k K with _|_;rfl;simp only[zC];cases b with
  |row l e=>simp only;split<;>rfl|_=>rfl
 |vl k st off n=>
  simp only[fz];rcases Nat.beq k K with _|_;rfl;simp only[zC];cases b with
  |vec l e s st=>simp only;split<;>rfl|_=>rfl
 |ptr k st off=>
  simp only[fz];rcases Nat.beq k K with _|_;rfl;simp only[zC];cases b with
  |row l e=>simp only;split<;>rfl|_=>rfl
 |agg l=>simp[okC]at h|tup l=>simp[okC]at h
 |junk=>simp[okC]at h|_=>simp only[fz];first |exact h |rfl
theorem Cr(K:Nat)(b:B)(sz:Nat):∀l:List U,okL l=true->okL (fF K b sz l)=true
 |[],_=>rfl|u::l,h=>by simp only[okL]at h;obtain⟨h1,h2⟩:=BN h;simp[fF,okL,NQ K b sz u h1,Cr K b sz l h2]
theorem KQ(K:Nat)(b:B)(sz:Nat):∀l:List U,(fF K b sz l).length=l.length
 |[]=>rfl|u::l=>by simp[fF,KQ K b sz l]
section
variable{x y:Cx}{K:Nat}{b:B}{sz:Nat}(hg:gt x.σ.h K=some b)(hb:iZ x K b)(hmo:Mo x.σ.nx x y)
 (hrow:∀i l e md,x.ρ K=some i->lk x.s.h i=some (.inl (l,e,md))->(md=0/\lk y.s.h i=some (.inl (l,0,1)))\/∃s,md=s+2/\lk y.s.h i=some (.inl (l,s+1,1)))
include hg hb hmo hrow
mutual
theorem Vw:(u:U)->(v:Value)->aA x u v->aA y (fz K b sz u) v
 |.sl k off n c,v,h=>by
  have keep:=hmo.ke _ _ (aA.bel _ _ h) h;simp only[fz,beq_eq];by_cases hk:k=K;subst hk;simp only[yC,zC];cases b with
  |row l e=>simp only;split;rename_i hlen;obtain⟨i,hi,rfl,hc,hnc⟩:=D2 (x:=x) (by simp[live,hg,B.st]) h;obtain⟨k1,i',l',e1,e2,e3⟩:=hb;rw[hi]at e1;cases e1;have e4:bN y l l':=(hmo.ke.E e3.bel e3).1;rcases hrow i l' e 0 hi e2 with⟨_,hl⟩|⟨s,hs,_⟩;simp only[aA,Qi];refine .inr ⟨i,off,c,rfl,(fun ht=>by cases ht),?_⟩;by_cases hn:n=0;exact .inl (List.eq_nil_of_length_eq_zero (by rw[Qi,hn]));exact .inr ⟨l',0,sz,hl,Qh n (e4.drop off) (vB k1 _) (by simp;omega),.inl ⟨hc,hnc⟩⟩;omega;exact keep
  |_=>exact keep
  simp only[hk,yB,zD];exact keep
 |.vl k st off n,v,h=>by
  have keep:=hmo.ke _ _ (aA.bel _ _ h) h;simp only[fz,beq_eq];by_cases hk:k=K;subst hk;simp only[yC,zC];cases b with
  |vec l e sz' st'=>
   simp only;split;rename_i hlen;obtain⟨rfl,hlen⟩:=hlen;obtain⟨l0,e0,s0,g1,g2⟩:=KP (x:=x) (by simp[live,hg,B.st]) h;have:=hg.symm.trans g1;cases this;obtain⟨k1,k2,h3⟩:=hb;rcases h3 with⟨rfl,h4⟩|⟨i,l',e1,e2,e3⟩;rw[h4]at g2;obtain⟨rfl,rfl,o,rfl,ho⟩:=g2;simp only[aA,bC];rcases o with _|a;exact .inl ⟨trivial,.inl rfl⟩;exact .inr ⟨a.block,a.off,0,by obtain⟨q1,q2,q3⟩:=a;have:=ho _ rfl;simp only at this;subst this;rfl,by simp,.inl trivial⟩;rw[e1]at g2;have e4:bN y l l':=(hmo.ke.E e3.bel e3).1;rcases hrow i l' e _ e1 e2 with⟨h0,_⟩|⟨s,hs,hl⟩;omega;have:s=sz':=by omega
   subst this;simp only[aA,Qi];rcases g2 with⟨_,rfl,a,c,rfl,ha⟩|rfl;exact .inr ⟨a.block,a.off,c,by obtain⟨q1,q2,q3⟩:=a;simp only at ha;subst ha;rfl,by simp,.inl rfl⟩;refine .inr ⟨i,off*s,b7+off,rfl,by simp,?_⟩;rw[Nat.add_mul]at hlen;exact .inr ⟨l',s+1,s,hl,Qh n (e4.drop _) (vB k1 _) (by simp;omega),.inr ⟨by omega,rfl,k2,by simp[aW],by rw[<-e3.2];exact hlen⟩⟩;exact keep
  |_=>exact keep
  simp only[hk,yB,zD];exact keep
 |.ptr k st off,v,h=>by
  have keep:=hmo.ke _ _ (aA.bel _ _ h) h;simp only[fz,beq_eq];by_cases hk:k=K;subst hk;simp only[yC,zC];cases b with
  |row l e=>simp only;split;rename_i hst;subst hst;obtain⟨i,hi,rfl⟩:=KU (x:=x) (by simp[live,hg,B.st]) h;obtain⟨k1,i',l',e1,e2,e3⟩:=hb;rw[hi]at e1;cases e1;have e4:bN y l l':=(hmo.ke.E e3.bel e3).1;rcases hrow i l' e 0 hi e2 with⟨_,hl⟩|⟨s,hs,_⟩;simp only[aA];exact⟨i,off,l',0,rfl,hl,e4.drop off,vB k1 _⟩;omega;exact keep
  |_=>exact keep
  simp only[hk,yB,zD];exact keep
 |.agg l,v,h=>by simp only[aA,fz]at*;obtain⟨vs,rfl,h1,h2,h3⟩:=h;exact⟨vs,rfl,QF l vs h1,by rw[KQ];exact h2,Cr K b sz l h3⟩
 |.tup l,v,h=>by simp only[aA,fz]at*;obtain⟨vs,rfl,h1,h2⟩:=h;exact⟨vs,rfl,QF l vs h1,by rw[KQ];exact h2⟩
 |.fn f p q,v,h=>by simp only[aA,fz]at*;obtain⟨va,vb,rfl,h1,h2,h3,h4⟩:=h;exact⟨va,vb,rfl,QF p va h1,by rw[KQ];exact h2,QF q vb h3,by rw[KQ];exact h4⟩
 |.junk,v,h=>by simp[fz,aA]
 |.bool _,v,h=>by simpa[fz,aA]using h
 |.int _ _,v,h=>by simpa[fz,aA]using h
 |.str _,v,h=>by simpa[fz,aA]using h
 |.nilp,v,h=>by simpa[fz,aA]using h
 |.nils,v,h=>by simpa[fz,aA]using h
 |.nilm,v,h=>by simpa[fz,aA]using h
 |.nilf,v,h=>by simpa[fz,aA]using h
 |.nili,v,h=>by simpa[fz,aA]using h
 |.map k,v,h=>by simp only[fz];exact hmo.ke _ _ (aA.bel _ _ h) h
 |.iptr l,v,h=>by simp only[fz];exact hmo.ke _ _ (aA.bel _ _ h) h
 |.isl t l,v,h=>by simp only[fz];exact hmo.ke _ _ (aA.bel _ _ h) h
theorem QF:(l:List U)->(vs:List Value)->bN x l vs->bN y (fF K b sz l) vs
 |[],vs,h=>by have _:=hg;have _:=hb;have _:=hmo;have _:=hrow;simp[fF,bN]
 |u::l,[],h=>by simp[bN]at h
 |u::l,v::vs,h=>by simp only[bN,fF]at*;exact⟨Vw u v h.1,QF l vs h.2⟩
end
end
theorem Gh.freeze{n0:Nat}{tm:List U}{σ:Sg}{K:Nat}{b:B}(sz:Nat)(hg:gt σ.h K=some b)(hb:∀es cl,b≠.map es cl):Gh n0 tm σ (fF K b sz tm) ⟨fzH K b sz σ.h,σ.nx⟩:=fun F x tv hx hr hf he=>by
 subst hx;obtain⟨hK,hB⟩:=hr.ok K b hg;have hs:∃s':S,(∀m w,dS m x.s w->bA m x.s w m s' w)/\(∀i c,lk x.s.h i=some c->x.ρ K≠some i->lk s'.h i=some c)/\(∀i c,lk s'.h i=some c->i<s'.nx)/\
   (∀i l e md,x.ρ K=some i->lk x.s.h i=some (.inl (l,e,md))->(md=0/\lk s'.h i=some (.inl (l,0,1)))\/∃s,md=s+2/\lk s'.h i=some (.inl (l,s+1,1))):=by
  have act:∀i l e md e1,x.ρ K=some i->lk x.s.h i=some (.inl (l,e,md))->(md=0/\e1=0\/∃sz,md=sz+2/\e1=sz+1)->∃s':S,(∀m w,dS m x.s w->bA m x.s w m s' w)/\(∀i c,lk x.s.h i=some c->x.ρ K≠some i->lk s'.h i=some c)/\(∀i c,lk s'.h i=some c->i<s'.nx)/\
   (∀i l e md,x.ρ K=some i->lk x.s.h i=some (.inl (l,e,md))->(md=0/\lk s'.h i=some (.inl (l,0,1)))\/∃s,md=s+2/\lk s'.h i=some (.inl (l,s+1,1))):=by
   intro i l e md e1 hi hl hmd;refine⟨⟨up x.s.h i (.inl (l,e1,1)),x.s.nx⟩,fun m w hf=>bA.freeze hf hl hmd,fun j c hc hne=>?_,fun j c hc=>?_,fun j l' e' md' hj hl'=>?_⟩;have:i≠j:=fun h=>hne (by rw[hi,h]);simp[tF,this,hc];simp only[tF]at hc;split at hc;rename_i h;subst h;exact hr.bd _ _ hl;exact hr.bd j c hc;rw[hi]at hj;cases hj;rw[hl]at hl';cases hl';rcases hmd with⟨rfl,rfl⟩|⟨s,rfl,rfl⟩
   exact .inl ⟨rfl,by simp[tF,hl]⟩;exact .inr ⟨s,rfl,by simp[tF,hl]⟩
  cases b with
  |map es cl=>exact absurd rfl (hb es cl)|row l e=>obtain⟨_,i,l',e1,e2,_⟩:=hB;exact act i l' e 0 0 e1 e2 (.inl ⟨rfl,rfl⟩)
  |vec l e s st=>obtain⟨_,_,h3⟩:=hB;rcases h3 with⟨_,h4⟩|⟨i,l',e1,e2,_⟩;exact⟨x.s,fun m w hf=>bA.refl hf,fun i c hc _=>hc,hr.bd,fun i l e md hi=>by rw[h4]at hi;cases hi⟩;exact act i l' e (s+2) (s+1) e1 e2 (.inr ⟨s,rfl,rfl⟩)
 obtain⟨s',a1,a2,a3,a4⟩:=hs;have sub:∀{k c},gt (fzH K b sz x.σ.h) k=some c->k≠K/\∃d,gt x.σ.h k=some d/\c=fzB K b sz d:=fun{k c} h=>by rw[wO]at h;split at h;cases h;rename_i hk;rcases hd:gt x.σ.h k with _|d;simp[hd]at h;simp[hd]at h;exact⟨hk,d,rfl,h.symm⟩
 have hmo:Mo x.σ.nx x ⟨x.ρ,⟨fzH K b sz x.σ.h,x.σ.nx⟩,s'⟩:=by refine⟨fun k _ h2=>⟨h2,fun c hc=>?_⟩,fun i row e hl=>a2 i _ hl fun h=>hB.not1 h hl⟩;obtain⟨_,d,h1,rfl⟩:=sub hc;refine⟨d,h1,by rw[NS];exact zF _,fun _=>⟨rfl,fun l e s st h=>?_⟩⟩;subst h;exact⟨_,rfl⟩
 have hfz:=fun u v h=>Vw (y:=⟨x.ρ,⟨fzH K b sz x.σ.h,x.σ.nx⟩,s'⟩) (sz:=sz) hg hB hmo a4 u v h;have hfzE:∀{l:List U}{vs:List Value},aQ x l vs->aQ ⟨x.ρ,⟨fzH K b sz x.σ.h,x.σ.nx⟩,s'⟩ (fF K b sz l) vs:=fun{l vs} h=>⟨QF hg hB hmo a4 l vs h.1,by rw[KQ];exact h.2⟩;refine⟨⟨x.ρ,⟨fzH K b sz x.σ.h,x.σ.nx⟩,s'⟩,a1,rfl,⟨fun k c hc=>?_,fun k k' c c' i h1 h2=>?_,a3⟩,fun i c hc=>?_,hfzE he,fun u v _ h=>hmo.ke u v (aA.bel _ _ h) h⟩;obtain⟨hk,d,h1,rfl⟩:=sub hc;obtain⟨h2,h3⟩:=hr.ok k d h1;refine⟨h2,?_⟩;have hne:∀i,x.ρ k=some i->x.ρ K≠some i:=fun i h h'=>hk (hr.inj k K d b i h1 hg h h');cases d with
 |row l e=>obtain⟨k1,i,l',e1,e2,e3⟩:=h3;exact⟨Cr _ _ _ _ k1,i,l',e1,a2 i _ e2 (hne i e1),hfzE e3⟩
 |vec l e s st=>obtain⟨k1,k2,h3⟩:=h3;refine⟨Cr _ _ _ _ k1,k2,?_⟩;rcases h3 with⟨rfl,h4⟩|⟨i,l',e1,e2,e3⟩;exact .inl ⟨rfl,h4⟩;exact .inr ⟨i,l',e1,a2 i _ e2 (hne i e1),hfzE e3⟩
 |map es cl=>obtain⟨i,es',e1,e2,e3⟩:=h3;refine⟨i,es',e1,a2 i _ e2 (hne i e1),by simp[e3.1],fun j e he=>?_⟩;rw[List.getElem?_map]at he;rcases hj:es[j]? with _|e0;simp[hj]at he;simp[hj]at he;subst he;obtain⟨v,q1,q2,q3,q4⟩:=e3.2 j e0 hj;exact⟨v,q1,hmo.ke _ _ (aA.bel _ _ q2) q2,hfz _ _ q3,q4⟩
 obtain⟨_,d,g1,_⟩:=sub h1;obtain⟨_,d',g2,_⟩:=sub h2;exact hr.inj k k' d d' i g1 g2;obtain⟨h1,h2⟩:=hf i c hc;refine⟨a2 i c h1 (h2 K b hg),fun k d hd=>?_⟩;obtain⟨_,d',g1,_⟩:=sub hd;exact h2 k d' g1
end Go.Vx
