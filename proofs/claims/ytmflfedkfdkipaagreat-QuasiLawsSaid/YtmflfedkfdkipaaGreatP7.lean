import Derived.CallsIn
import Derived.OrdersIn
import Derived.Test.YtmflfedkfdkipaaGreatP6
set_option linter.all false
namespace Go.Vx
open Go Go.Rx
def dX(tm:Z U)(d:I Tmp)(u:U):Z U:=match d with
 |none=>tm|some d=>tm.set d u
variable{x:Cx}
variable{tm:Z U}
def JO{tv:Z A}(h:aX x tm tv){u:U}{v:A}(hu:aB x u v)(d:I Tmp):aX x (dX tm d u) (A9 tv d v):=by rcases d with _|d;exact h;exact h.set d hu
structure St(F:Nat->lJ->Prop)(x:Cx)(tm:Z U)(tv:Z A)(m:Nm)(w:Tz)(a:Act):Prop where
 h:i8 x
 fr:Fr F x
 e:aX x tm tv
 fits:fN m x.s w
 act:y8 m x.s.nx tv a
def aV(P:Uz)(f:FuncId)(args:Z U)(X:Sg)(Q:U->Sg->Prop):Prop :=
 ∀F x vs m w cargs,x.X=X->i8 x->Fr F x->aX x args vs->fN m x.s w->mU m x.s.nx vs cargs->
  Calls P f cargs.toArray w fun e w₁=>∃y aI u v cv,e=.returned cv/\Q u y.X/\bQ m x.s w aI y.s w₁/\eI aI y.s.nx v cv/\i8 y/\Fr F y/\aB y u v/\Ke x.X.nx x y/\x.X.nx<=y.X.nx
def Mo.nx{x y:Cx}(h:Mo x.X.nx x y):x.X.nx<=y.X.nx:=by cases hn:x.X.nx with|zero=>omega|succ n=>have:=(h.ref n (by omega) (by omega)).1;omega
def RG(P:Uz):Er P nc:=fun f args s v bE h=>by simp[nc]at h
def G4(a:Act)(d:I Tmp)(v:A):(a.put d v).defers=a.defers:=by cases d<;>rfl
section
variable{P:Uz}{T:Tb}(hT:iK P T){F:Nat->lJ->Prop}{x:Cx}{tm:Z U}{tv:Z A}{m:Nm}{w:Tz}{a:Act}
include hT
variable{next:Act->Tz->Prop}
variable{Q:Exit->Act->Tz->Prop}
def St.op(st:St F x tm tv m w a)(o:Oper){u:U}{X':Sg}(h:bF T x.X tm o.op=some (u,X'))
  (hn:∀y dB aI w₁ b7,y.X=X'->St F y (dX tm o.dst u) dB aI w₁ b7->bQ m x.s w aI y.s w₁->Ke x.X.nx x y->x.X.nx<=y.X.nx->b7.defers=a.defers->next b7 w₁):o.wp P a w next Q:=by obtain⟨v,y,h1,h2,h3,h4⟩:=Y1 st.h st.e h;refine RB hT (RG P) st.fits st.act o h1 fun aI w₁ cv aO gY=>?_;exact hn y (A9 tv o.dst v) aI w₁ _ h2 ⟨h4.h,h4.fr F st.fr,JO (h4.mo.ke.E st.e.bel st.e) h3 _,aO.fits,(st.act.ext aO.agree aO.nx).put gY o.dst⟩ aO h4.mo.ke h4.mo.nx (G4 _ _ _)
def St.call(st:St F x tm tv m w a)(o:Oper){f:FuncId}{args:Z U}(h:jG T tm o.op=some (f,args)){R:U->Sg->Prop}(jT:aV P f args x.X R)
  (hn:∀y u dB aI w₁ b7,R u y.X->St F y (dX tm o.dst u) dB aI w₁ b7->bQ m x.s w aI y.s w₁->Ke x.X.nx x y->x.X.nx<=y.X.nx->b7.defers=a.defers->next b7 w₁):o.wp P a w next Q:=by obtain⟨vs,h1,h2⟩:=z1x st.e h;obtain⟨cargs,g1,g2⟩:=qoy hT st.act o w h1;unfold Oper.wp;rw[g1];show Calls P f _ w _;refine(jT F x vs m w cargs rfl st.h st.fr h2 st.fits g2).mono ?_;rintro e w₁ ⟨y,aI,u,v,cv,rfl,hR,aO,gY,hh,fP,CT,fT,iE⟩;exact hn y u (A9 tv o.dst v) aI w₁ _ hR ⟨hh,fP,JO (fT.E st.e.bel st.e) CT _,aO.fits,(st.act.ext aO.agree aO.nx).put gY o.dst⟩ aO fT iE (G4 _ _ _)
def St.nilq(st:St F x tm tv m w a)(o:Oper){t e ty:O}{xo yo:Jp}{b:BQ}{l:Z (Z U)}(ho:o.op=.binOp .eql t xo yo ty)(hd:T.und t=some (.slice e))(hx:bS tm xo=some (.isl b l))(hy:bS tm yo=some .nils)
  (hn:∀(z:BQ) y dB aI w₁ b7,(z=true->l=[])->y.X=x.X->St F y (dX tm o.dst (.bool z)) dB aI w₁ b7->bQ m x.s w aI y.s w₁->Ke x.X.nx x y->x.X.nx<=y.X.nx->b7.defers=a.defers->next b7 w₁):o.wp P a w next Q:=by
 obtain⟨vx,ex,rx⟩:=fI st.e hx;obtain⟨vy,ey,ry⟩:=fI st.e hy;simp only[aB]at rx ry;subst ry;have key:∃z:BQ,(z=true->l=[])/\xG T nc tv x.s o.op=some (.bool z,x.s):=by rw[ho];rcases rx with⟨hl,rfl |⟨r,rfl⟩⟩|⟨i,off,c,rfl,_⟩;exact⟨true,fun _=>hl,by simp[xG,gT,ex,ey,sJ,AF,eqv,hd]⟩;exact⟨false,by simp,by simp[xG,gT,ex,ey,sJ,AF,eqv,hd]⟩;exact⟨false,by simp,by simp[xG,gT,ex,ey,sJ,AF,eqv,hd]⟩
 obtain⟨z,hz,pF⟩:=key;refine RB hT (RG P) st.fits st.act o pF fun aI w₁ cv aO gY=>?_;exact hn z x (A9 tv o.dst (.bool z)) aI w₁ _ hz rfl ⟨st.h,st.fr,JO st.e (by simp[aB]) _,aO.fits,(st.act.ext aO.agree aO.nx).put gY o.dst⟩ aO (Ke.refl _ _) (zF _) (G4 _ _ _)
omit hT in
def St.skip(st:St F x tm tv m w a)(d:I Tmp):St F x (dX tm d (.tup [])) (A9 tv d undef) m w (a.put d undef):=
 ⟨st.h,st.fr,JO st.e (by simp only[aB];exact⟨[],rfl,by simp[c8],rfl⟩) _,st.fits,st.act.put (vG fun _=>by simp[undef,ren,aE]) d⟩
end
def cA(aA:Z Oper)(tm:Z U)(o:Oper):I BQ :=
 match o.guard with
 |none=>some true|some (j,want)=>match yE aA j with
  |none=>some false|some d=>match nth tm d with
   |some (.bool b)=>some (b==want)|some (.tup _)=>some false
   |_=>none
def G2{aA:Z Oper}{tv:Z A}(ht:aX x tm tv){o:Oper}{b:BQ}(h:cA aA tm o=some b):Lz aA tv o=b:=by
 unfold cA at h;unfold Lz;rcases hg:o.guard with _|g;simp[hg]at h;simp[h];obtain⟨j,want⟩:=g;simp only[hg]at h ⊢;rcases hd:yE aA j with _|d;simp[hd]at h;simp[h];simp only[hd,i9]at h ⊢;rcases hu:tm[d]? with _|u;simp[hu]at h;obtain⟨v,h1,h2⟩:=ht.get hu;rw[h1];cases u with
 |bool c=>simp only[hu,zA]at h;simp only[aB]at h2;subst h2;simp[h]|tup l=>simp only[hu,zA]at h;simp only[aB]at h2;obtain⟨vs,rfl,_⟩:=h2;simp[h]
 |_=>simp[hu]at h
def y7(ro:I Nat):Fence:={ Fence.wide with round:=ro }
variable{ro:I Nat}
variable{n:Nat}
variable{P:Uz}
variable{w:Tz}
def Cj{f:FuncId}{args:Bo A}{R:Ending->Tz->Prop}(h:Calls P f args w R):CallsIn (y7 ro) n P f args w R:=(callsIn_wide (n:=n)).2 h
def Kl{row:String}{args:Bo A}{R:A->Tz->Prop}(h:Rows P row args w R):RowsIn (y7 ro) n P row args w R:=fun c cs _=>by
 obtain⟨v,w',r,s⟩:=h c cs;exact⟨v,w',r,(stepsIn_wide (P:=P)).2 s⟩
def qxv:(y7 ro).depth.isSome=true->1<=n:=fun h=>by simp[y7,Fence.wide]at h
def vE{o:Oper}{a:Act}{next:Act->Tz->Prop}{Q:Exit->Act->Tz->Prop}(ho:∀c,o.op≠.defer c)(h:o.wp P a w next Q):o.wpIn (y7 ro) n P a w next Q:=by refine⟨fun _ _=>trivial,?_⟩;have e:o.semAt (y7 ro).round a.eval=execOp a.eval o:=Oper.semAt_eq _ _ _ ho;rw[e];revert h;unfold Oper.wp;generalize (execOp a.eval o).run P w=r;intro h;unfold Oper.upon at h;split at h;exact h;exact h;exact h;exact⟨qxv,Cj h⟩;exact⟨qxv,Kl h⟩;exact h;exact h.elim
def PZ{T:Tb}{X:Sg}{op:Op}{r:U×Sg}(h:bF T X tm op=some r):∀c,op≠.defer c:=by rintro c rfl;simp[bF,gW,oY,nS]at h
def qb{T:Tb}{op:Op}{r:FuncId×Z U}(h:jG T tm op=some r):∀c,op≠.defer c:=by rintro c rfl;simp[jG]at h
structure PG where
 prog:Uz
 nb:Nat
 G:Cx->Nm->Tz->Prop
 ro:I Nat->Prop
 mks:BQ
 st:∀{x y:Cx}{m m':Nm}{w w':Tz},G x m w->fN m x.s w->bQ m x.s w m' y.s w'->Ke nb x y->G y m' w'
abbrev PG.of(P:Uz):PG:=⟨P,0,fun _ _ _=>True,fun _=>True,false,fun _ _ _ _=>trivial⟩
structure U2(C:PG)(n0:Nat)(x:Cx)(m:Nm)(w:Tz):Prop where
 nb:C.nb<=n0
 g:C.G x m w
variable{m:Nm}
variable{m':Nm}
variable{w':Tz}
def U2.adv{C:PG}{n0:Nat}{y:Cx}(h:U2 C n0 x m w)(hf:fN m x.s w)(ha:bQ m x.s w m' y.s w')(hk:Ke n0 x y):U2 C n0 y m' w':=⟨h.nb,C.st h.g hf ha (hk.le h.nb)⟩
def Xt(b0:Nat)(w:Tz)(ds:Z Deferred):Prop:=b0<=w.heap.size/\∃bs:Z Nat,bs.Nodup/\ds=bs.map (fun b=>{ target:=.collected b,args:=#[] })/\∀b∈bs,b0<=b/\w.heap[b]? = some (.deferred (some []))
variable{s:S}
def z3e(hf:fN m s w){b:Nat}{o:Obj}(h:w.heap[b]? = some o)(ho:∀c e f,o≠.cells c e f)(Tc:∀q c,o≠.map q c):¬ UC m s b:=by
 rintro⟨i,c,h1,h2,rfl⟩;have:=hf.fits.ok i c h1;rcases c with⟨l,e,md⟩|⟨es,cl⟩;simp only[uD]at this
 match md,this with
 |0,hr=>simp only[wW]at hr;rw[hr.2]at h;exact ho _ _ _ (Option.some.inj h).symm|1,hr=>simp[Own]at h2
 |n+2,hr=>simp only[wW]at hr;obtain⟨_,_,hr,_⟩:=hr;rw[hr]at h;exact ho _ _ _ (Option.some.inj h).symm
 simp only[uD]at this;rw[this]at h;exact Tc _ _ (Option.some.inj h).symm
def z7t{s':S}(hf:fN m s w)(ha:bQ m s w m' s' w'){b:Nat}{o:Obj}(h:w.heap[b]? = some o)(ho:∀c e f,o≠.cells c e f)(Tc:∀q c,o≠.map q c):w'.heap[b]? = some o:=by rw[ha.same b (Array.getElem?_eq_some_iff.1 h).1 (z3e hf h ho Tc)];exact h
def Xt.adv{b0:Nat}{s':S}{ds:Z Deferred}(h:Xt b0 w ds)(hf:fN m s w)(ha:bQ m s w m' s' w'):Xt b0 w' ds:=by obtain⟨h0,bs,h1,h2,h3⟩:=h;exact⟨Nat.le_trans h0 ha.size,bs,h1,h2,fun b hb=>⟨(h3 b hb).1,z7t hf ha (h3 b hb).2 (by simp) (by simp)⟩⟩
structure DR(C:PG)(b0:Nat)(ds:Z Deferred)(w':Tz)(ds':Z Deferred):Prop where
 eq:C.mks=false->ds'=ds
 ok:C.mks=true->Xt b0 w' ds'
def DR.trans{C:PG}{b0:Nat}{ds ID ds2:Z Deferred}{w1 w2:Tz}(h:DR C b0 ds w1 ID)(g:DR C b0 ID w2 ds2):DR C b0 ds w2 ds2:=⟨fun hk=>(g.eq hk).trans (h.eq hk),g.ok⟩
def DR.here{C:PG}{b0:Nat}{ds ID:Z Deferred}{w1:Tz}(h:DR C b0 ds w1 ID):DR C b0 ID w1 ID:=⟨fun _=>rfl,h.ok⟩
def DR.adv{C:PG}{b0:Nat}{ds ID:Z Deferred}{m:Nm}{s:S}{w:Tz}{m':Nm}{s':S}{w':Tz}(h:DR C b0 ds w ID)(hf:fN m s w)(ha:bQ m s w m' s' w'):DR C b0 ds w' ID:=⟨h.eq,fun hk=>(h.ok hk).adv hf ha⟩
def eT(C:PG)(X:Sg)(tm:Z U)(o:Oper)(R:U->Sg->Prop):Prop :=
 ∀(F:Nat->lJ->Prop)(x:Cx)(tv:Z A)(m:Nm)(w:Tz)(a:Act)(next:Act->Tz->Prop)(Q:Exit->Act->Tz->Prop),x.X=X->St F x tm tv m w a->U2 C x.X.nx x m w-> (∀u y dB aI w₁ b7,R u y.X->St F y (dX tm o.dst u) dB aI w₁ b7->bQ m x.s w aI y.s w₁->Ke x.X.nx x y->x.X.nx<=y.X.nx->b7.defers=a.defers->next b7 w₁)->∀ro,C.ro ro->o.wpIn (y7 ro) 0 C.prog a w next Q
def RU(C:PG)(T:Tb)(aA:Z Oper):Z Oper->Z U->Sg->(Z U->Sg->Prop)->Prop
 |[],tm,X,K=>K tm X|o::r,tm,X,K=>(cA aA tm o=some true/\∃u X',bF T X tm o.op=some (u,X')/\RU C T aA r (dX tm o.dst u) X' K)\/ (cA aA tm o=some true/\∃f args R,jG T tm o.op=some (f,args)/\aV C.prog f args X R/\∀u X',R u X'->RU C T aA r (dX tm o.dst u) X' K)\/ (cA aA tm o=some false/\RU C T aA r (dX tm o.dst (.tup [])) X K)\/ (cA aA tm o=some true/\∃t xo yo ty e b l,o.op=.binOp .eql t xo yo ty/\T.und t=some (.slice e)/\bS tm xo=some (.isl b l)/\bS tm yo=some .nils/\∀z:BQ,(z=true->l=[])->RU C T aA r (dX tm o.dst (.bool z)) X K)\/ (cA aA tm o=some true/\∃R,eT C X tm o R/\∀u X',R u X'->RU C T aA r (dX tm o.dst u) X' K)
def ux(C:PG)(n0:Nat)(F:Nat->lJ->Prop)(x:Cx)(m:Nm)(w:Tz)(ds:Z Deferred)(b0:Nat)(Q:Exit->Z U->Sg->Prop):Exit->Act->Tz->Prop:=fun e a' w'=>
 ∃y tm' dB m',Q e tm' y.X/\St F y tm' dB m' w' a'/\bQ m x.s w m' y.s w'/\Ke n0 x y/\n0<=y.X.nx/\DR C b0 ds w' a'.defers
def WPU(C:PG)(n0:Nat)(c:Code)(tm:Z U)(X:Sg)(Q:Exit->Z U->Sg->Prop):Prop :=
 n0<=X.nx->∀F x tv m w a b0,x.X=X->St F x tm tv m w a->U2 C n0 x m w->DR C b0 a.defers w a.defers->∀ro,C.ro ro->c.wpIn (y7 ro) 0 C.prog (ux C n0 F x m w a.defers b0 Q) a w
section
variable{C:PG}{n0:Nat}{Q:Exit->Z U->Sg->Prop}{tm:Z U}{X:Sg}
def BT(K:Z U->Sg->Prop)(Q:Exit->Z U->Sg->Prop):Exit->Z U->Sg->Prop
 |.normal,tm,s=>K tm s|e,tm,s=>Q e tm s
def WPU.seq{p q:Code}(h:WPU C n0 p tm X (BT (fun tm X=>WPU C n0 q tm X Q) Q)):WPU C n0 (.seq p q) tm X Q:=fun hn F x tv m w a b0 hx st hG hd ro eR=>by
 refine wpIn_seq (wpIn_mono (h hn F x tv m w a b0 hx st hG hd ro eR) ?_);rintro e a' w' ⟨y,tm',dB,m',h1,h2,h3,h4,h5,h6⟩;cases e with
 |normal=>refine wpIn_mono (h1 h5 F y dB m' w' a' b0 rfl h2 (hG.adv st.fits h3 h4) h6.here ro eR) ?_;rintro e a'' w'' ⟨z,hX,tv'',m'',g1,g2,g3,g4,g5,g6⟩;exact⟨z,hX,tv'',m'',g1,g2,h3.trans g3,h4.trans g4,g5,h6.trans g6⟩
 |_=>exact⟨y,tm',dB,m',h1,h2,h3,h4,h5,h6⟩
def WPU.skip(h:Q .normal tm X):WPU C n0 .skip tm X Q:=fun hn F x tv m w a b0 hx st hG hd ro eR=>wpIn_skip ⟨x,tm,tv,m,hx ▸ h,st,bQ.refl st.fits,Ke.refl _ _,hx ▸ hn,hd⟩
def WPU.ret(h:Q .ret tm X):WPU C n0 .ret tm X Q:=fun hn F x tv m w a b0 hx st hG hd ro eR=>wpIn_ret ⟨x,tm,tv,m,hx ▸ h,st,bQ.refl st.fits,Ke.refl _ _,hx ▸ hn,hd⟩
def WPU.exit{id:Nat}(h:Q (.exit id) tm X):WPU C n0 (.exit id) tm X Q:=fun hn F x tv m w a b0 hx st hG hd ro eR=>wpIn_exit ⟨x,tm,tv,m,hx ▸ h,st,bQ.refl st.fits,Ke.refl _ _,hx ▸ hn,hd⟩
def WPU.cond{c:Jp}{p q:Code}{t:BQ}(hc:bS tm c=some (.bool t))(h1:t=true->WPU C n0 p tm X Q)(h2:t=false->WPU C n0 q tm X Q):WPU C n0 (.cond c p q) tm X Q:=fun hn F x tv m w a b0 hx st hG hd ro eR=>by
 obtain⟨v,e1,e2⟩:=fI st.e hc;simp only[aB]at e2;subst e2;have he:=(st.act.evalO e1).at;simp only[ren]at he;rcases t with _|_;exact wpIn_cond_false he.symm (h2 rfl hn F x tv m w a b0 hx st hG hd ro eR);exact wpIn_cond_true he.symm (h1 rfl hn F x tv m w a b0 hx st hG hd ro eR)
def xB(id:Nat)(Q:Exit->Z U->Sg->Prop):Exit->Z U->Sg->Prop
 |.exit id',tm,s=>if id'=id then Q .normal tm s else Q (.exit id') tm s|e,tm,s=>Q e tm s
def aR{id:Nat}{c:Code}(h:WPU C n0 c tm X (xB id Q)):WPU C n0 (.block id c) tm X Q:=fun hn F x tv m w a b0 hx st hG hd ro eR=>by
 refine wpIn_block (wpIn_mono (h hn F x tv m w a b0 hx st hG hd ro eR) ?_);rintro e a' w' ⟨y,tm',dB,m',h1,h2⟩;cases e with
 |exit id'=>simp only[Exit.inBlock];simp only[xB]at h1;by_cases lH:id'=id;simp only[lH,if_true]at h1 ⊢;exact⟨y,tm',dB,m',h1,h2⟩;simp only[lH,if_false]at h1 ⊢;exact⟨y,tm',dB,m',h1,h2⟩|_=>exact⟨y,tm',dB,m',h1,h2⟩
def WPU.loop{c:Code}(v07:Nat->Z U->Sg->Prop)(n:Nat)(h₀:v07 n tm X)(round:∀n tm X,v07 n tm X->WPU C n0 c tm X (BT (fun tm' X'=>∃n',n'<n/\v07 n' tm' X') Q)):WPU C n0 (.loop c) tm X Q:=by
 intro hn F x tv m w a b0 hx st hG hd ro eR b k cs hbr hb hr;have key:∀n tm X,v07 n tm X->n0<=X.nx->∀x tv m w a,x.X=X->St F x tm tv m w a->U2 C n0 x m w->DR C b0 a.defers w a.defers->∃e a' w',ux C n0 F x m w a.defers b0 Q e a' w'/\ArrivesIn (Machine.fenced C.prog (y7 ro)) C.prog (lone (b.atR a (.code c :: .inLoop c::k)) cs w) b k cs e a' w':=by
  intro n;induction n using Nat.strongRecOn with
  |_ n ih=>
   intro tm X hI hn x tv m w a hx st hG hd;obtain⟨e,b7,w₁,⟨y,sF,sE,aI,hq,c9,aO,fT,iE,lA⟩,w6⟩:=round n tm X hI hn F x tv m w a b0 hx st hG hd ro eR b (.inLoop c::k) cs hbr hb hr;cases e with
   |normal=>obtain⟨n',aH,hI'⟩:=hq;obtain⟨e₂,a₂,BM,⟨z,Kb,Jz,GB,Sv,ZF,O9,Ab,ZQ,Aq⟩,O7⟩:=ih n' aH sF y.X hI' iE y sE aI w₁ b7 rfl c9 (hG.adv st.fits aO fT) lA.here;exact⟨e₂,a₂,BM,⟨z,Kb,Jz,GB,Sv,ZF,aO.trans O9,fT.trans Ab,ZQ,lA.trans Aq⟩,.of_steps (StepsIn.trans w6 (.one (fenced_calm hb hr rfl) stepR_inLoop)) O7⟩
   |exit id=>exact⟨_,b7,w₁,⟨y,sF,sE,aI,hq,c9,aO,fT,iE,lA⟩,.pass (x:=.inLoop c) rfl (fun _ _=>.inl (by simp)) w6⟩|goto l=>exact⟨_,b7,w₁,⟨y,sF,sE,aI,hq,c9,aO,fT,iE,lA⟩,.pass (x:=.inLoop c) rfl (fun _ _=>.inl (by simp)) w6⟩
   |ret=>exact⟨_,b7,w₁,⟨y,sF,sE,aI,hq,c9,aO,fT,iE,lA⟩,.pass (x:=.inLoop c) rfl (fun _ _=>.inl (by simp)) w6⟩|panic ch=>exact⟨_,b7,w₁,⟨y,sF,sE,aI,hq,c9,aO,fT,iE,lA⟩,.pass (x:=.inLoop c) rfl (fun _ _=>.inl (by simp)) w6⟩
   |outgrown=>exact⟨_,b7,w₁,⟨y,sF,sE,aI,hq,c9,aO,fT,iE,lA⟩,.pass (x:=.inLoop c) rfl (fun _ _=>.inl (by simp)) w6⟩
 obtain⟨e,a',w',hq,w6⟩:=key n tm X h₀ hn x tv m w a hx st hG hd;exact⟨e,a',w',hq,.of_steps (.one (fenced_calm hb hr rfl) stepR_loop) w6⟩
def Gh(n0:Nat)(tm:Z U)(X:Sg)(tm':Z U)(X':Sg):Prop :=
 ∀F x tv,x.X=X->i8 x->Fr F x->aX x tm tv->∃y,(∀m w,fN m x.s w->bQ m x.s w m y.s w)/\y.X=X'/\i8 y/\Fr F y/\aX y tm' tv/\Ke n0 x y
def Gh.refl(n0:Nat)(tm:Z U)(X:Sg):Gh n0 tm X tm X:=fun F x tv hx h hf he=>⟨x,fun m w hf=>bQ.refl hf,hx,h,hf,he,Ke.refl _ _⟩
def Gh.trans{tm' hX:Z U}{X' aS:Sg}(h:Gh n0 tm X tm' X')(h':Gh n0 tm' X' hX aS):Gh n0 tm X hX aS:=fun F x tv hx hh hf he=>by
 obtain⟨y,h1,h2,h3,h4,h5,h6⟩:=h F x tv hx hh hf he;obtain⟨z,g1,g2,g3,g4,g5,g6⟩:=h' F y tv h2 h3 h4 h5;exact⟨z,fun m w hf=>(h1 m w hf).trans (g1 m w (h1 m w hf).fits),g2,g3,g4,g5,h6.trans g6⟩
def dY{c:Code}{tm':Z U}{X':Sg}(h:Gh n0 tm X tm' X')(AT:n0<=X'.nx)(hw:WPU C n0 c tm' X' Q):WPU C n0 c tm X Q:=fun hn F x tv m w a b0 hx st hG hd ro eR=>by
 obtain⟨y,h1,h2,h3,h4,h5,h6⟩:=h F x tv hx st.h st.fr st.e;have aO:=h1 m w st.fits;refine wpIn_mono (hw AT F y tv m w a b0 h2 ⟨h3,h4,h5,aO.fits,st.act.ext aO.agree aO.nx⟩ (hG.adv st.fits aO h6) hd ro eR) ?_;rintro e a' w' ⟨z,hX,tv'',m'',g1,g2,g3,g4,g5,g6⟩;exact⟨z,hX,tv'',m'',g1,g2,aO.trans g3,h6.trans g4,g5,g6⟩
def WPU.after{c:Code}{Q':Exit->Z U->Sg->Prop}(h:WPU C n0 c tm X Q')(hq:∀e tm X,n0<=X.nx->Q' e tm X->∃tm' X',n0<=X'.nx/\Gh n0 tm X tm' X'/\Q e tm' X'):WPU C n0 c tm X Q:=fun hn F x tv m w a b0 hx st hG hd ro eR=>by
 refine wpIn_mono (h hn F x tv m w a b0 hx st hG hd ro eR) ?_;rintro e a' w' ⟨y,tm',dB,m',h1,h2,h3,h4,h5,h6⟩;obtain⟨hX,aS,q1,q2,q3⟩:=hq e tm' y.X h5 h1;obtain⟨z,g1,g2,g3,g4,g5,g6⟩:=q2 F y dB rfl h2.h h2.fr h2.e;have aO:=g1 m' w' h2.fits;exact⟨z,hX,dB,m',g2 ▸ q3,⟨g3,g4,g5,aO.fits,h2.act.ext aO.agree aO.nx⟩,h3.trans aO,h4.trans g6,g2 ▸ q1,h6⟩
variable{T:Tb}(hT:iK C.prog T)
include hT
def Dk(aA:Bo Oper)(E:Exit->Act->Tz->Prop){F:Nat->lJ->Prop}{x0:Cx}{m0:Nm}{w0:Tz}{df:Z Deferred}(K:Z U->Sg->Prop)(KW:U2 C n0 x0 m0 w0)(hf0:fN m0 x0.s w0)(ro:I Nat)(eR:C.ro ro):
  ∀(rest:Z Oper)(i:Nat),aA.toList.drop i=rest->∀(x:Cx)(tm:Z U)(tv:Z A)(m:Nm)(w:Tz)(a:Act),St F x tm tv m w a->a.defers=df->bQ m0 x0.s w0 m x.s w->Ke n0 x0 x->n0<=x.X.nx->RU C T aA.toList rest tm x.X K-> (∀y tm' dB m' w' a',K tm' y.X->St F y tm' dB m' w' a'->bQ m0 x0.s w0 m' y.s w'->Ke n0 x0 y->n0<=y.X.nx->a'.defers=df->E .normal a' w')->wpOpsIn (y7 ro) 0 C.prog aA E (List.range' i rest.length) a w
 |[],i,_,x,tm,tv,m,w,a,st,hd,aO,fT,hn,h,hQ=>by simp only[zS,List.range'_zero,wpOpsIn];exact hQ x tm tv m w a h st aO fT hn hd
 |o::rest,i,xQ,x,tm,tv,m,w,a,st,hd,aO,fT,hn,h,hQ=>by
  have ho:aA[i]? = some o:=by have:=congrArg (fun l=>l[0]?) xQ;simpa using this
  have bB:aA.toList.drop (i+1)=rest:=by have:=congrArg List.tail xQ;simpa using this
  simp only[zO,List.range'_succ,wpOpsIn,ho,fe (st.act m (aJ.refl _ _)) aA o];simp only[RU]at h;rcases h with⟨hw,u,X',h1,h2⟩|⟨hw,f,args,R,h1,h2,h3⟩|⟨hw,h1⟩|⟨hw,t,xo,yo,ty,e,b,l,h1,h2,h3,h4,h5⟩|⟨hw,R,h1,h2⟩;rw[G2 st.e hw];simp only[if_true];refine vE (PZ h1) (st.op hT o h1 fun y dB aI w₁ b7 e1 bG cR eF iE lA=>?_);exact Dk aA E K KW hf0 ro eR rest (i+1) bB y _ dB aI w₁ b7 bG (lA.trans hd) (aO.trans cR) (fT.trans (eF.le hn)) (by omega) (e1 ▸ h2) hQ;rw[G2 st.e hw];simp only[if_true];refine vE (qb h1) (st.call hT o h1 h2 fun y u dB aI w₁ b7 hR bG cR eF iE lA=>?_);exact Dk aA E K KW hf0 ro eR rest (i+1) bB y _ dB aI w₁ b7 bG (lA.trans hd) (aO.trans cR) (fT.trans (eF.le hn)) (by omega) (h3 u y.X hR) hQ;rw[G2 st.e hw];simp only[Bool.false_eq_true,if_false];exact⟨fun _ _=>trivial,Dk aA E K KW hf0 ro eR rest (i+1) bB x _ _ m w _ (st.skip o.dst) ((G4 _ _ _).trans hd) aO fT hn h1 hQ⟩;rw[G2 st.e hw];simp only[if_true];refine vE (by rw[h1];intro c hc;cases hc) (st.nilq hT o h1 h2 h3 h4 fun z y dB aI w₁ b7 hz e1 bG cR eF iE lA=>?_);exact Dk aA E K KW hf0 ro eR rest (i+1) bB y _ dB aI w₁ b7 bG (lA.trans hd) (aO.trans cR) (fT.trans (eF.le hn)) (by omega) (e1 ▸ h5 z hz) hQ;rw[G2 st.e hw];simp only[if_true];refine h1 F x tv m w a _ _ rfl st ⟨Nat.le_trans KW.nb hn,(KW.adv hf0 aO fT).g⟩ (fun u y dB aI w₁ b7 hR bG cR eF iE lA=>?_) ro eR;exact Dk aA E K KW hf0 ro eR rest (i+1) bB y _ dB aI w₁ b7 bG (lA.trans hd) (aO.trans cR) (fT.trans (eF.le hn)) (by omega) (h2 u y.X hR) hQ
def WPU.region{id:Nat}{aA:Bo Oper}(h:RU C T aA.toList aA.toList tm X (fun tm' X'=>Q .normal tm' X')):WPU C n0 (.region id aA false) tm X Q:=fun hn F x tv m w a b0 hx st hG hd ro eR=>by
 subst hx;refine wpIn_region ?_;have:=Dk hT aA (ux C n0 F x m w a.defers b0 Q) (F:=F) (x0:=x) (m0:=m) (w0:=w) (df:=a.defers) (fun tm' X'=>Q .normal tm' X') hG st.fits ro eR aA.toList 0 (by simp) x tm tv m w a st rfl (bQ.refl st.fits) (Ke.refl _ _) hn h
  (fun y tm' dB m' w' a' h1 h2 h3 h4 h5 h6=>⟨y,tm',dB,m',h1,h2,h3,h4,h5,by rw[h6];exact hd.adv st.fits h3⟩)
 rw[List.range_eq_range'];simpa using this
end
def jY(T:Tb)(X:Sg)(tm:Z U):Z ResultVar->I (Z U)
 |[]=>some []|.tmp t::r=>match nth tm t with
  |some v=>(match jY T X tm r with
   |some l=>some (v::l)|none=>none)
  |none=>none
 |.cell a t::r=>match oY T X tm (.load t (.tmp a))with
  |some v=>(match jY T X tm r with
   |some l=>some (v::l)|none=>none)
  |none=>none
def lN:Z U->U
 |[v]=>v|l=>.tup l
def er{T:Tb}{x:Cx}(hx:i8 x){tm:Z U}{tv:Z A}(ht:aX x tm tv):∀{rs:Z ResultVar}{us:Z U},jY T x.X tm rs=some us->∃vs,DS T tv x.s rs=some vs/\aX x us vs
 |[],us,h=>by simp only[jY,zA]at h;subst h;exact⟨[],rfl,aX.nil x⟩
 |.tmp t::rs,us,h=>by simp only[jY,i9]at h;rcases h1:tm[t]? with _|u;simp[h1]at h;rcases h2:jY T x.X tm rs with _|l;simp[h1,h2]at h;simp only[h1,h2,zA]at h;subst h;obtain⟨v,e1,e2⟩:=ht.get h1;obtain⟨vs,e3,e4⟩:=er hx ht h2;exact⟨v::vs,by simp[DS,i9,e1,e3],aX.cons e2 e4⟩
 |.cell a t::rs,us,h=>by
  simp only[jY]at h;rcases h1:oY T x.X tm (.load t (.tmp a))with _|u;simp[h1]at h;rcases h2:jY T x.X tm rs with _|l;simp[h1,h2]at h;simp only[h1,h2,zA]at h;subst h;obtain⟨v,y,e1,e2,e3,e4⟩:=qut hx ht h1;obtain⟨vs,e5,e6⟩:=er hx ht h2;have hp:gT T tv (.load t (.tmp a))=none:=rfl;have he:qS T tv x.s (.load t (.tmp a))=none:=rfl;have hc:callOf T tv (.load t (.tmp a))=none:=rfl;unfold xG at e1;simp only[hp,he,hc]at e1;rcases qZ:mL T tv x.s (.load t (.tmp a))with _|v';simp[qZ]at e1;simp only[qZ,zA,zB]at e1;obtain⟨rfl,hs⟩:=e1;refine⟨v'::vs,by simp[DS,qZ,e5],aX.cons ?_ e6⟩;have eY:Mo y.X.nx y x:=by refine⟨fun k hk oR=>?_,fun i row e hl=>by rw[hs];exact hl⟩;rw[e2]at oR ⊢;refine⟨oR,fun b hb=>⟨b,hb,zF _,fun _=>⟨?_,fun l e sz st h=>⟨l,h⟩⟩⟩⟩;have:=(e4.mo.ref k (by rw[<-e2];exact hk) oR).2 b (by rw[e2];exact hb);obtain⟨b',q1,q2,q3⟩:=this;rw[hb]at q1;cases q1;exact(q3 rfl).1.symm
  exact eY.ke u _ (aB.bel _ _ e3) e3
def z7v{us:Z U}{vs:Z A}(h:aX x us vs):aB x (lN us) (DV vs):=by
 match us,vs,h with
 |[],vs,h=>rw[h.nil_inv];simp only[lN,DV,aB];exact⟨[],rfl,by simp[c8],rfl⟩|[u],vs,h=>obtain⟨v,pL,rfl,h1,h2⟩:=h.inv;rw[h2.nil_inv];exact h1
 |u::u'::us,vs,h=>obtain⟨v,pL,rfl,h1,h2⟩:=h.inv;obtain⟨v',vs'',rfl,h3,h4⟩:=h2.inv;simp only[lN,DV,aB];exact⟨_,rfl,h.1,h.2⟩
def DU:Nat->Z U->Z U
 |0,l=>l|n+1,[]=>.tup []::DU n []
 |n+1,v::l=>v::DU n l
def tu{x:Cx}:∀(n:Nat){us:Z U}{vs:Z A},aX x us vs->aX x (DU n us) (pad n vs)
 |0,us,vs,h=>h|n+1,[],vs,h=>by rw[h.nil_inv];exact aX.cons (by simp only[aB];exact⟨[],rfl,by simp[c8],rfl⟩) (tu n (aX.nil x))
 |n+1,u::us,vs,h=>by obtain⟨v,pL,rfl,h1,h2⟩:=h.inv;exact aX.cons h1 (tu n h2)
section
variable{P:Uz}{T:Tb}(hT:iK P T)
include hT
def Db{f:FuncId}{fn:Func}{c:Code}{args:Z U}{X:Sg}{R:U->Sg->Prop}(hf:T.fn f=some fn)(hb:fn.body=some c)
  (h:WPU (PG.of P) X.nx c (DU fn.ntmps args) X fun e tm' X'=>(e=.normal\/e=.ret)/\∃l,jY T X' tm' fn.results.toList=some l/\∃u' aS,X.nx<=aS.nx/\Gh X.nx [lN l] X' [u'] aS/\R u' aS):aV P f args X R:=fun F x vs m w cargs hx hh fP he eG cJ=>by
 obtain⟨hf0,_⟩:=hT.fn f fn hf;have iF:cargs.length=vs.length:=by rw[<-cJ.at];simp
 refine calls_of_wp hf0 hb ?_;have R?:y8 m x.s.nx (pad fn.ntmps vs) { tmps:=cargs.toArray++Array.replicate (fn.ntmps-cargs.toArray.size) undef,defers:=[] }:=fun m' fS=>by simp only[XX,K3,cJ m' fS,iF,List.size_toArray];apply Array.ext';simp[lD,ren,undef]
 refine wp_mono ((wpIn_wide (n:=0)).1 (h (zF _) F x _ m w _ 0 hx ⟨hh,fP,tu _ he,eG,R?⟩ ⟨Nat.zero_le _,trivial⟩ ⟨fun _=>rfl,fun h=>by cases h⟩ none trivial)) ?_;rintro e a' w' ⟨y,tm',dB,m',⟨qJ,l,vP,u',aS,iE,Ag,hR⟩,bG,aO,fT,hn,C?⟩;have lA:a'.defers=[]:=C?.eq rfl;obtain⟨ls,Su,KS⟩:=er bG.h bG.e vP;have cG:∀m'',aJ y.s.nx m' m''->(results fn a'.tmps).run P w'=.ok (ren m'' (DV ls)) w':=fun m'' NN=>by rw[bG.act m'' NN];exact qwa hT (bG.fits m'' NN) Su
 have gY:eI m' y.s.nx (DV ls) (ren m' (DV ls)):=fun m'' NN=>by have e1:=cG m'' NN;rw[cG m' (aJ.refl _ _)]at e1;simp at e1;exact e1.symm
 obtain⟨z,z1,z2,z3,z4,z5,z6⟩:=Ag F y [DV ls] rfl bG.h bG.fr (aX.cons (z7v KS) (aX.nil y));obtain⟨v0,Iu,e0,z7,_⟩:=z5.inv;cases e0;have fB:=z1 m' w' bG.fits;have S9:bodyPost P fn (fun e w₁=>∃y aI u v cv,e=.returned cv/\R u y.X/\bQ m x.s w aI y.s w₁/\eI aI y.s.nx v cv/\i8 y/\Fr F y/\aB y u v/\Ke x.X.nx x y/\x.X.nx<=y.X.nx) .ret a' w' :=
  ⟨lA,_,cG m' (aJ.refl _ _),z,m',u',DV ls,_,rfl,z2 ▸ hR,aO.trans fB,gY.ext (aJ.refl _ _) fB.nx,z3,z4,z7,hx ▸ fT.trans z6,by rw[hx,z2];exact iE⟩
 rcases qJ with rfl |rfl;exact S9;exact S9
end
def aV.mono{P:Uz}{f:FuncId}{args:Z U}{X:Sg}{R R':U->Sg->Prop}(h:aV P f args X R)(hr:∀u X',R u X'->R' u X'):aV P f args X R':=fun F x vs m w cargs hx hh fP he eG cJ=>
 (h F x vs m w cargs hx hh fP he eG cJ).mono fun _ _ ⟨y,aI,u,v,cv,h1,h2,h3⟩=>⟨y,aI,u,v,cv,h1,hr _ _ h2,h3⟩
end Go.Vx
namespace Go.Vx
open Go Go.Rx
def aV.pure{P:Uz}{f:FuncId}{args:Z U}{R:U->Prop}(h:aV P f args ⟨[],0⟩ (fun u _=>R u/\aP 0 u))(ha:aF 0 args)(X:Sg):aV P f args X (fun u X'=>R u/\X'=X):=fun F x vs m w cargs hx hh fP he eG cJ=>by
 have h0:i8 ⟨fun _=>none,⟨[],0⟩,x.s⟩:=⟨fun k b hb=>by simp[gt]at hb,fun k k' b b' i hb=>by simp[gt]at hb,hh.bd⟩;have Tf:Mo 0 x ⟨fun _=>none,⟨[],0⟩,x.s⟩:=⟨fun k hk=>by omega,fun _ _ _ h=>h⟩;refine(h (fun i b=>lk x.s.h i=some b) ⟨fun _=>none,⟨[],0⟩,x.s⟩ vs m w cargs rfl h0 (fun i b hb=>⟨hb,fun k c hc=>by simp[gt]at hc⟩) (Tf.ke.E ha he) eG cJ).mono ?_;rintro e w₁ ⟨y,aI,u,v,cv,rfl,⟨hR,iF⟩,aO,gY,Tt,tT,CT,_,_⟩;have eY:Mo x.X.nx x ⟨x.Y,x.X,y.s⟩:=⟨fun k _ h2=>⟨h2,fun b hb=>⟨b,hb,zF _,fun _=>⟨rfl,fun l e sz st h=>⟨l,h⟩⟩⟩⟩,fun i row e hl=>(tT i _ hl).1⟩;have i?:Mo 0 y ⟨x.Y,x.X,y.s⟩:=⟨fun k hk=>by omega,fun _ _ _ h=>h⟩;refine⟨⟨x.Y,x.X,y.s⟩,aI,u,v,cv,rfl,⟨hR,hx⟩,aO,gY,⟨fun k b hb=>?_,hh.inj,Tt.bd⟩,fun i b hb=>?_,i?.ke u v iF CT,eY.ke,zF _⟩;obtain⟨h1,h2⟩:=hh.ok k b hb;exact⟨h1,h2.mono eY rfl fun i c _ hl=>(tT i c hl).1⟩;obtain⟨h1,h2⟩:=fP i b hb;exact⟨(tT i b h1).1,h2⟩
def BelB(n:Nat):B->Prop
 |.row l _=>aF n l|.vec l _ _ _=>aF n l
 |.map es _=>∀e∈es,aP n e.key/\aP n e.val
def DX(n:Nat):Z (Nat×B)->Prop
 |[]=>True|(_,b)::h=>BelB n b/\DX n h
def cut(n:Nat):Z (Nat×B)->Z (Nat×B)
 |[]=>[]|(k,b)::h=>cond (Nat.blt k n) ((k,b)::cut n h) (cut n h)
def Eh(n:Nat)(h:Z (Nat×B))(k:Nat):gt (cut n h) k=if k<n then gt h k else none:=by induction h with|nil=>simp[cut,gt]|cons p h ih=>obtain⟨j,b⟩:=p;simp only[cut];by_cases hj:j<n;rw[oL hj];simp only[zC,aQ,ih];by_cases CY:j=k;subst CY;simp[hj];simp[CY];rw[JU hj];simp only[zD,aQ,ih];by_cases CY:j=k;subst CY;simp[hj];simp[CY]
def z1n{n:Nat}{h:Z (Nat×B)}(hb:DX n h){k:Nat}{b:B}(hg:gt h k=some b):BelB n b:=by induction h with|nil=>simp[gt]at hg|cons p h ih=>obtain⟨j,c⟩:=p;simp only[DX]at hb;simp only[aQ]at hg;split at hg;cases hg;exact hb.1;exact ih hb.2 hg
def mQ.monoB{n:Nat}{x y:Cx}{k:Nat}{b:B}(h:mQ x k b)(hb:BelB n b)(hm:Mo n x y)(gX:y.Y k=x.Y k)(hl:∀i c,x.Y k=some i->lk x.s.h i=some c->lk y.s.h i=some c):mQ y k b:=by
 cases b with
 |row l e=>obtain⟨k1,i,l',e1,e2,e3⟩:=h;exact⟨k1,i,l',by rw[gX,e1],hl _ _ e1 e2,hm.ke.E hb e3⟩
 |vec l e sz st=>obtain⟨k1,k2,h3⟩:=h;refine⟨k1,k2,?_⟩;rcases h3 with⟨h3,h4⟩|⟨i,l',e1,e2,e3⟩;exact .inl ⟨h3,by rw[gX,h4]⟩;exact .inr ⟨i,l',by rw[gX,e1],hl _ _ e1 e2,hm.ke.E hb e3⟩
 |map es cl=>obtain⟨i,es',e1,e2,e3⟩:=h;refine⟨i,es',by rw[gX,e1],hl _ _ e1 e2,e3.1,fun j e he=>?_⟩;obtain⟨v,q1,q2,q3,q4⟩:=e3.2 j e he;have:=hb e (zX he);exact⟨v,q1,hm.ke _ _ this.1 q2,hm.ke _ _ this.2 q3,q4⟩
def LM:Z BQ->Z U->Z U
 |true::l,_::tm=>.junk::LM l tm|false::l,u::tm=>u::LM l tm
 |_,tm=>tm
def de{x:Cx}:∀(l:Z BQ){tm:Z U}{tv:Z A},aX x tm tv->aX x (LM l tm) tv
 |[],tm,tv,h=>by cases tm<;>exact h
 |true::l,[],tv,h=>h|false::l,[],tv,h=>h
 |true::l,u::tm,tv,h=>by obtain⟨v,vs,rfl,h1,h2⟩:=h.inv;exact aX.cons (by simp[aB]) (de l h2)
 |false::l,u::tm,tv,h=>by obtain⟨v,vs,rfl,h1,h2⟩:=h.inv;exact aX.cons h1 (de l h2)
def Gh.junk(n0:Nat)(l:Z BQ)(tm:Z U)(X:Sg):Gh n0 tm X (LM l tm) X:=fun F x tv hx h hf he=>⟨x,fun m w hf=>bQ.refl hf,hx,h,hf,de l he,Ke.refl _ _⟩
def Gh.cut{n0 n1:Nat}{tm:Z U}{X:Sg}(h1:n0<=n1)(h2:n1<=X.nx)(hb:aF n1 tm)(hh:DX n1 (Vx.cut n1 X.h)):Gh n0 tm X tm ⟨Vx.cut n1 X.h,n1⟩:=fun F x tv hx hr hf he=>by
 subst hx;have eY:Mo n1 x ⟨x.Y,⟨Vx.cut n1 x.X.h,n1⟩,x.s⟩:=by refine⟨fun k hk _=>⟨hk,fun b hb=>?_⟩,fun _ _ _ h=>h⟩;simp only[Eh,hk,if_true]at hb;exact⟨b,hb,zF _,fun _=>⟨rfl,fun l e sz st h=>⟨l,h⟩⟩⟩
 have sub:∀{k b},gt (Vx.cut n1 x.X.h) k=some b->k<n1/\gt x.X.h k=some b:=fun{k b} hg=>by simp only[Eh]at hg;split at hg;exact⟨by assumption,hg⟩;cases hg
 refine⟨⟨x.Y,⟨Vx.cut n1 x.X.h,n1⟩,x.s⟩,fun m w hf=>bQ.refl hf,rfl,⟨fun k b hg=>?_,fun k k' b b' i g1 g2=>hr.inj k k' b b' i (sub g1).2 (sub g2).2,hr.bd⟩,fun i b J=>?_,eY.ke.E hb he,eY.ke.le h1⟩;exact⟨(sub hg).1,(hr.ok k b (sub hg).2).2.monoB (z1n hh hg) eY rfl fun _ _ _ h=>h⟩;exact⟨(hf i b J).1,fun k c hc=>(hf i b J).2 k c (sub hc).2⟩
def qv2{l:Z A}{i:Nat}{v:A}(h:l[i]? = some v):l.set i v=l:=by apply List.ext_getElem?;intro j;rw[List.getElem?_set];split;rename_i e;subst e;have:=(zG.1 h).1;simp only[this,if_true];exact h.symm;rfl
def Gh.nilvec{n0:Nat}{tm:Z U}{X:Sg}(i:Nat)(e:O)(sz:Nat)(eA:0<sz)(h0:n0<=X.nx)(hi:nth tm i=some .nils):Gh n0 tm X (tm.set i (.vl X.nx 0 0 0)) (newU X (.vec [] e sz 0)):=fun F x tv hx hr hf he=>by
 subst hx;have ho:=fg hr e sz eA;rw[i9]at hi;obtain⟨v,h1,h2⟩:=he.get hi;simp only[aB]at h2;subst h2;refine⟨⟨lB x.Y x.X.nx none,newU x.X (.vec [] e sz 0),x.s⟩,fun m w hf=>bQ.refl hf,rfl,ho.h,ho.fr F hf,?_,ho.mo.ke.le h0⟩;have:=(ho.mo.ke.E he.bel he).set i (ng (x:=x) (e:=e) (sz:=sz) (o:=none) (by simp))
 rwa [qv2 h1]at this
def bQ.freeze{m:Nm}{s:S}{w:Tz}(h:fN m s w){i:Nat}{l:Z A}{e md e1:Nat}(hl:lk s.h i=some (.inl (l,e,md)))(oD:md=0/\e1=0\/∃sz,md=sz+2/\e1=sz+1):
  bQ m s w m ⟨up s.h i (.inl (l,e1,1)),s.nx⟩ w:=by
 have old:∀j c,lk (up s.h i (.inl (l,e1,1))) j=some c->∃d,lk s.h j=some d/\(Own c=true->Own d=true)/\(j≠i->c=d):=fun j c hc=>by simp only[BV]at hc;by_cases kB:i=j;subst kB;simp only[if_true,hl,zM,zA]at hc;subst hc;exact⟨_,hl,fun h=>by simp[Own]at h,fun h=>absurd rfl h⟩;simp only[kB,if_false]at hc;exact⟨c,hc,id,fun _=>rfl⟩
 refine⟨aJ.refl _ _,zF _,fun m' ha=>?_,?_,fun _ _ _=>rfl,zF _,rfl,rfl,rfl⟩;have hf:=h m' ha;refine⟨fun j c hc=>?_,fun j k c d hc hd CY ho=>?_,fun j c hc=>?_⟩;by_cases kB:j=i;subst kB;simp only[BV,if_true,hl,zM,zA]at hc;subst hc;have hr:wW m' j l e w md:=hf.ok j _ hl;rcases oD with⟨rfl,rfl⟩|⟨sz,rfl,rfl⟩;obtain⟨h0,h1⟩:=hr;exact⟨_,_,_,h1,fun k v hk=>by simp[h0,lD,hk],fun n hn=>absurd hn (by simp)⟩;obtain⟨pr,rest,h1,h2,h3⟩:=hr;refine⟨_,_,_,h1,fun k v hk=>?_,fun n hn=>?_⟩;have aH:k<l.length:=(zG.1 hk).1;simp only[List.getElem?_toArray,zT,<-h2];rw[List.getElem?_append_right (by omega),Nat.add_sub_cancel_left,List.getElem?_append_left (by simpa using aH)];simp[lD,hk];have:n=sz:=(Nat.succ.inj hn).symm;subst this;exact Nat.le_of_add_right_le (Nat.le_of_eq h3);obtain⟨d,h1,_,h3⟩:=old j c hc;rw[h3 kB];exact hf.ok j d h1;obtain⟨c',h1,h2,_⟩:=old j c hc;obtain⟨d',h3,_,_⟩:=old k d hd;exact hf.inj j k c' d' h1 h3 CY (h2 ho);obtain⟨d,h1,_⟩:=old j c hc;exact hf.bd j d h1;rintro b ⟨j,c,hc,ho,rfl⟩;obtain⟨d,h1,h2,_⟩:=old j c hc;exact .inl ⟨j,d,h1,h2 ho,rfl⟩
def bR(sz:Nat):Nat->Z U->Z (Z U)
 |0,_=>[]|n+1,l=>l.take sz::bR sz n (l.drop sz)
def iw(sz n:Nat)(l:Z U):(bR sz n l).length=n:=by induction n generalizing l with|zero=>rfl|succ n ih=>simp[bR,ih]
def iv{x:Cx}{sz:Nat}:∀(n:Nat){l:Z U}{vs:Z A},c8 x l vs->okL l=true->n*sz<=l.length->gO x sz (bR sz n l) vs
 |0,l,vs,h,hk,hl=>by simp[bR,gO]
 |n+1,l,vs,h,hk,hl=>by rw[Nat.succ_mul]at hl;simp only[bR,gO];refine⟨by simp;omega,QC hk _,?_,iv n (h.drop sz) (EA hk _) (by simp;omega)⟩;rw[FZ]at h ⊢;intro i u hu;rw[List.getElem?_take]at hu;split at hu;exact h i u hu;cases hu
mutual
def fz(K:Nat)(b:B)(sz:Nat):U->U
 |.sl k off n c=>cond (Nat.beq k K) (match b with
  |.row l _=>if off+n*sz<=l.length then .isl false (bR sz n (l.drop off))else .sl k off n c|_=>.sl k off n c) (.sl k off n c)
 |.vl k st off n=>cond (Nat.beq k K) (match b with
  |.vec l _ gS bG=>if bG=st/\(off+n)*gS<=l.length then .isl false (bR gS n (l.drop (off*gS)))else .vl k st off n|_=>.vl k st off n) (.vl k st off n)
 |.ptr k st off=>cond (Nat.beq k K) (match b with
  |.row l _=>if st=0 then .iptr (l.drop off)else .ptr k st off|_=>.ptr k st off) (.ptr k st off)
 |.agg l=>.agg (iX K b sz l)|.tup l=>.tup (iX K b sz l)
 |.fn f a c=>.fn f (iX K b sz a) (iX K b sz c)|u=>u
def iX(K:Nat)(b:B)(sz:Nat):Z U->Z U
 |[]=>[]|u::l=>fz K b sz u::iX K b sz l
end
def fzB(K:Nat)(b:B)(sz:Nat):B->B
 |.row l e=>.row (iX K b sz l) e|.vec l e s st=>.vec (iX K b sz l) e s st
 |.map es cl=>.map (es.map fun e=>{ e with val:=fz K b sz e.val }) cl
def fzH(K:Nat)(b:B)(sz:Nat):Z (Nat×B)->Z (Nat×B)
 |[]=>[]|(k,c)::h=>cond (Nat.beq k K) (fzH K b sz h) ((k,fzB K b sz c)::fzH K b sz h)
def FX(K:Nat)(b:B)(sz:Nat)(h:Z (Nat×B))(k:Nat):gt (fzH K b sz h) k=if k=K then none else(gt h k).map (fzB K b sz):=by induction h with|nil=>simp[fzH,gt]|cons p h ih=>obtain⟨j,c⟩:=p;simp only[fzH,beq_eq];by_cases hj:j=K;subst hj;simp only[yC,zC,ih,aQ];by_cases hk:k=j;simp[hk];simp[hk,Ne.symm hk];simp only[hj,yB,zD,aQ,ih];by_cases hk:j=k;subst hk;simp[hj];simp[hk]
def Bc(K:Nat)(b:B)(sz:Nat)(c:B):(fzB K b sz c).st=c.st:=by cases c<;>rfl
def Ba(K:Nat)(b:B)(sz:Nat)(u:U)(h:okC u=true):okC (fz K b sz u)=true:=by
 cases u with
 |sl k off n c=>
  simp only[fz];rcases Nat.beq k K with _|_;rfl;simp only[zC];cases b with
  |row l e=>simp only;split<;>rfl|_=>rfl
 |vl k st off n=>
  simp only[fz];rcases Nat.beq k K with _|_;rfl;simp only[zC];cases b with
  |vec l e s st=>simp only;split<;>rfl|_=>rfl
 |ptr k st off=>
  simp only[fz];rcases Nat.beq k K with _|_;rfl;simp only[zC];cases b with
  |row l e=>simp only;split<;>rfl|_=>rfl
 |agg l=>simp[okC]at h|tup l=>simp[okC]at h
 |junk=>simp[okC]at h|_=>simp only[fz];first |exact h |rfl
def Yo(K:Nat)(b:B)(sz:Nat):∀l:Z U,okL l=true->okL (iX K b sz l)=true
 |[],_=>rfl|u::l,h=>by simp only[okL]at h;obtain⟨h1,h2⟩:=K1 h;simp[iX,okL,Ba K b sz u h1,Yo K b sz l h2]
def WR(K:Nat)(b:B)(sz:Nat):∀l:Z U,(iX K b sz l).length=l.length
 |[]=>rfl|u::l=>by simp[iX,WR K b sz l]
section
variable{x y:Cx}{K:Nat}{b:B}{sz:Nat}(hg:gt x.X.h K=some b)(hb:mQ x K b)(eY:Mo x.X.nx x y)
 (dD:∀i l e md,x.Y K=some i->lk x.s.h i=some (.inl (l,e,md))->(md=0/\lk y.s.h i=some (.inl (l,0,1)))\/∃s,md=s+2/\lk y.s.h i=some (.inl (l,s+1,1)))
include hg hb eY dD
mutual
def z59:(u:U)->(v:A)->aB x u v->aB y (fz K b sz u) v
 |.sl k off n c,v,h=>by
  have keep:=eY.ke _ _ (aB.bel _ _ h) h;simp only[fz,beq_eq];by_cases hk:k=K;subst hk;simp only[yC,zC];cases b with
  |row l e=>simp only;split;rename_i aN;obtain⟨i,hi,rfl,hc,sT⟩:=M6 (x:=x) (by simp[live,hg,B.st]) h;obtain⟨k1,i',l',e1,e2,e3⟩:=hb;rw[hi]at e1;cases e1;have e4:c8 y l l':=(eY.ke.E e3.bel e3).1;rcases dD i l' e 0 hi e2 with⟨_,hl⟩|⟨s,hs,_⟩;simp only[aB,iw];refine .inr ⟨i,off,c,rfl,(fun ht=>by cases ht),?_⟩;by_cases hn:n=0;exact .inl (List.eq_nil_of_length_eq_zero (by rw[iw,hn]));exact .inr ⟨l',0,sz,hl,iv n (e4.drop off) (EA k1 _) (by simp;omega),.inl ⟨hc,sT⟩⟩;omega;exact keep
  |_=>exact keep
  simp only[hk,yB,zD];exact keep
 |.vl k st off n,v,h=>by
  have keep:=eY.ke _ _ (aB.bel _ _ h) h;simp only[fz,beq_eq];by_cases hk:k=K;subst hk;simp only[yC,zC];cases b with
  |vec l e gS bG=>
   simp only;split;rename_i aN;obtain⟨rfl,aN⟩:=aN;obtain⟨l0,e0,s0,g1,g2⟩:=WQ (x:=x) (by simp[live,hg,B.st]) h;have:=hg.symm.trans g1;cases this;obtain⟨k1,k2,h3⟩:=hb;rcases h3 with⟨rfl,h4⟩|⟨i,l',e1,e2,e3⟩;rw[h4]at g2;obtain⟨rfl,rfl,o,rfl,ho⟩:=g2;simp only[aB,bR];rcases o with _|a;exact .inl ⟨trivial,.inl rfl⟩;exact .inr ⟨a.block,a.off,0,by obtain⟨q1,q2,q3⟩:=a;have:=ho _ rfl;simp only at this;subst this;rfl,by simp,.inl trivial⟩;rw[e1]at g2;have e4:c8 y l l':=(eY.ke.E e3.bel e3).1;rcases dD i l' e _ e1 e2 with⟨h0,_⟩|⟨s,hs,hl⟩;omega;have:s=gS:=by omega
   subst this;simp only[aB,iw];rcases g2 with⟨_,rfl,a,c,rfl,ha⟩|rfl;exact .inr ⟨a.block,a.off,c,by obtain⟨q1,q2,q3⟩:=a;simp only at ha;subst ha;rfl,by simp,.inl rfl⟩;refine .inr ⟨i,off*s,bP+off,rfl,by simp,?_⟩;rw[Nat.add_mul]at aN;exact .inr ⟨l',s+1,s,hl,iv n (e4.drop _) (EA k1 _) (by simp;omega),.inr ⟨by omega,rfl,k2,by simp[bI],by rw[<-e3.2];exact aN⟩⟩;exact keep
  |_=>exact keep
  simp only[hk,yB,zD];exact keep
 |.ptr k st off,v,h=>by
  have keep:=eY.ke _ _ (aB.bel _ _ h) h;simp only[fz,beq_eq];by_cases hk:k=K;subst hk;simp only[yC,zC];cases b with
  |row l e=>simp only;split;rename_i c9;subst c9;obtain⟨i,hi,rfl⟩:=WU (x:=x) (by simp[live,hg,B.st]) h;obtain⟨k1,i',l',e1,e2,e3⟩:=hb;rw[hi]at e1;cases e1;have e4:c8 y l l':=(eY.ke.E e3.bel e3).1;rcases dD i l' e 0 hi e2 with⟨_,hl⟩|⟨s,hs,_⟩;simp only[aB];exact⟨i,off,l',0,rfl,hl,e4.drop off,EA k1 _⟩;omega;exact keep
  |_=>exact keep
  simp only[hk,yB,zD];exact keep
 |.agg l,v,h=>by simp only[aB,fz]at*;obtain⟨vs,rfl,h1,h2,h3⟩:=h;exact⟨vs,rfl,Ey l vs h1,by rw[WR];exact h2,Yo K b sz l h3⟩
 |.tup l,v,h=>by simp only[aB,fz]at*;obtain⟨vs,rfl,h1,h2⟩:=h;exact⟨vs,rfl,Ey l vs h1,by rw[WR];exact h2⟩
 |.fn f p q,v,h=>by simp only[aB,fz]at*;obtain⟨va,vb,rfl,h1,h2,h3,h4⟩:=h;exact⟨va,vb,rfl,Ey p va h1,by rw[WR];exact h2,Ey q vb h3,by rw[WR];exact h4⟩
 |.junk,v,h=>by simp[fz,aB]
 |.bool _,v,h=>by simpa[fz,aB]using h
 |.int _ _,v,h=>by simpa[fz,aB]using h
 |.str _,v,h=>by simpa[fz,aB]using h
 |.nilp,v,h=>by simpa[fz,aB]using h
 |.nils,v,h=>by simpa[fz,aB]using h
 |.nilm,v,h=>by simpa[fz,aB]using h
 |.nilf,v,h=>by simpa[fz,aB]using h
 |.nili,v,h=>by simpa[fz,aB]using h
 |.map k,v,h=>by simp only[fz];exact eY.ke _ _ (aB.bel _ _ h) h
 |.iptr l,v,h=>by simp only[fz];exact eY.ke _ _ (aB.bel _ _ h) h
 |.isl t l,v,h=>by simp only[fz];exact eY.ke _ _ (aB.bel _ _ h) h
def Ey:(l:Z U)->(vs:Z A)->c8 x l vs->c8 y (iX K b sz l) vs
 |[],vs,h=>by have _:=hg;have _:=hb;have _:=eY;have _:=dD;simp[iX,c8]
 |u::l,[],h=>by simp[c8]at h
 |u::l,v::vs,h=>by simp only[c8,iX]at*;exact⟨z59 u v h.1,Ey l vs h.2⟩
end
end
def Gh.freeze{n0:Nat}{tm:Z U}{X:Sg}{K:Nat}{b:B}(sz:Nat)(hg:gt X.h K=some b)(hb:∀es cl,b≠.map es cl):Gh n0 tm X (iX K b sz tm) ⟨fzH K b sz X.h,X.nx⟩:=fun F x tv hx hr hf he=>by
 subst hx;obtain⟨hK,hB⟩:=hr.ok K b hg;have hs:∃s':S,(∀m w,fN m x.s w->bQ m x.s w m s' w)/\(∀i c,lk x.s.h i=some c->x.Y K≠some i->lk s'.h i=some c)/\(∀i c,lk s'.h i=some c->i<s'.nx)/\
   (∀i l e md,x.Y K=some i->lk x.s.h i=some (.inl (l,e,md))->(md=0/\lk s'.h i=some (.inl (l,0,1)))\/∃s,md=s+2/\lk s'.h i=some (.inl (l,s+1,1))):=by
  have act:∀i l e md e1,x.Y K=some i->lk x.s.h i=some (.inl (l,e,md))->(md=0/\e1=0\/∃sz,md=sz+2/\e1=sz+1)->∃s':S,(∀m w,fN m x.s w->bQ m x.s w m s' w)/\(∀i c,lk x.s.h i=some c->x.Y K≠some i->lk s'.h i=some c)/\(∀i c,lk s'.h i=some c->i<s'.nx)/\
   (∀i l e md,x.Y K=some i->lk x.s.h i=some (.inl (l,e,md))->(md=0/\lk s'.h i=some (.inl (l,0,1)))\/∃s,md=s+2/\lk s'.h i=some (.inl (l,s+1,1))):=by
   intro i l e md e1 hi hl oD;refine⟨⟨up x.s.h i (.inl (l,e1,1)),x.s.nx⟩,fun m w hf=>bQ.freeze hf hl oD,fun j c hc cT=>?_,fun j c hc=>?_,fun j l' e' md' hj xN=>?_⟩;have:i≠j:=fun h=>cT (by rw[hi,h]);simp[BV,this,hc];simp only[BV]at hc;split at hc;rename_i h;subst h;exact hr.bd _ _ hl;exact hr.bd j c hc;rw[hi]at hj;cases hj;rw[hl]at xN;cases xN;rcases oD with⟨rfl,rfl⟩|⟨s,rfl,rfl⟩
   exact .inl ⟨rfl,by simp[BV,hl]⟩;exact .inr ⟨s,rfl,by simp[BV,hl]⟩
  cases b with
  |map es cl=>exact absurd rfl (hb es cl)|row l e=>obtain⟨_,i,l',e1,e2,_⟩:=hB;exact act i l' e 0 0 e1 e2 (.inl ⟨rfl,rfl⟩)
  |vec l e s st=>obtain⟨_,_,h3⟩:=hB;rcases h3 with⟨_,h4⟩|⟨i,l',e1,e2,_⟩;exact⟨x.s,fun m w hf=>bQ.refl hf,fun i c hc _=>hc,hr.bd,fun i l e md hi=>by rw[h4]at hi;cases hi⟩;exact act i l' e (s+2) (s+1) e1 e2 (.inr ⟨s,rfl,rfl⟩)
 obtain⟨s',a1,a2,a3,a4⟩:=hs;have sub:∀{k c},gt (fzH K b sz x.X.h) k=some c->k≠K/\∃d,gt x.X.h k=some d/\c=fzB K b sz d:=fun{k c} h=>by rw[FX]at h;split at h;cases h;rename_i hk;rcases hd:gt x.X.h k with _|d;simp[hd]at h;simp[hd]at h;exact⟨hk,d,rfl,h.symm⟩
 have eY:Mo x.X.nx x ⟨x.Y,⟨fzH K b sz x.X.h,x.X.nx⟩,s'⟩:=by refine⟨fun k _ h2=>⟨h2,fun c hc=>?_⟩,fun i row e hl=>a2 i _ hl fun h=>hB.not1 h hl⟩;obtain⟨_,d,h1,rfl⟩:=sub hc;refine⟨d,h1,by rw[Bc];exact zF _,fun _=>⟨rfl,fun l e s st h=>?_⟩⟩;subst h;exact⟨_,rfl⟩
 have hfz:=fun u v h=>z59 (y:=⟨x.Y,⟨fzH K b sz x.X.h,x.X.nx⟩,s'⟩) (sz:=sz) hg hB eY a4 u v h;have Ah:∀{l:Z U}{vs:Z A},aX x l vs->aX ⟨x.Y,⟨fzH K b sz x.X.h,x.X.nx⟩,s'⟩ (iX K b sz l) vs:=fun{l vs} h=>⟨Ey hg hB eY a4 l vs h.1,by rw[WR];exact h.2⟩;refine⟨⟨x.Y,⟨fzH K b sz x.X.h,x.X.nx⟩,s'⟩,a1,rfl,⟨fun k c hc=>?_,fun k k' c c' i h1 h2=>?_,a3⟩,fun i c hc=>?_,Ah he,fun u v _ h=>eY.ke u v (aB.bel _ _ h) h⟩;obtain⟨hk,d,h1,rfl⟩:=sub hc;obtain⟨h2,h3⟩:=hr.ok k d h1;refine⟨h2,?_⟩;have cT:∀i,x.Y k=some i->x.Y K≠some i:=fun i h h'=>hk (hr.inj k K d b i h1 hg h h');cases d with
 |row l e=>obtain⟨k1,i,l',e1,e2,e3⟩:=h3;exact⟨Yo _ _ _ _ k1,i,l',e1,a2 i _ e2 (cT i e1),Ah e3⟩
 |vec l e s st=>obtain⟨k1,k2,h3⟩:=h3;refine⟨Yo _ _ _ _ k1,k2,?_⟩;rcases h3 with⟨rfl,h4⟩|⟨i,l',e1,e2,e3⟩;exact .inl ⟨rfl,h4⟩;exact .inr ⟨i,l',e1,a2 i _ e2 (cT i e1),Ah e3⟩
 |map es cl=>obtain⟨i,es',e1,e2,e3⟩:=h3;refine⟨i,es',e1,a2 i _ e2 (cT i e1),by simp[e3.1],fun j e he=>?_⟩;rw[List.getElem?_map]at he;rcases hj:es[j]? with _|e0;simp[hj]at he;simp[hj]at he;subst he;obtain⟨v,q1,q2,q3,q4⟩:=e3.2 j e0 hj;exact⟨v,q1,eY.ke _ _ (aB.bel _ _ q2) q2,hfz _ _ q3,q4⟩
 obtain⟨_,d,g1,_⟩:=sub h1;obtain⟨_,d',g2,_⟩:=sub h2;exact hr.inj k k' d d' i g1 g2;obtain⟨h1,h2⟩:=hf i c hc;refine⟨a2 i c h1 (h2 K b hg),fun k d hd=>?_⟩;obtain⟨_,d',g1,_⟩:=sub hd;exact h2 k d' g1
end Go.Vx
