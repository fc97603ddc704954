import GoSem.ClaimChange
import Derived.Test.YtmflfedkfdkipaaGreatP6
set_option linter.all false
open List Go.IntKind
open Nat hiding beq_eq
namespace Go.Vx
open Go Go.Rx
mutual
def dF(W:Ep):U->Value->Prop
 |.bool b,v=>v=.bool b|.int k n,v=>v=.int k n
 |.str l,v=>v=.string ⟨⟨l⟩⟩|.O t l,v=>t=false/\((l=[]/\(v=.slice none 0 0\/∃b off p,v=.slice (some ⟨b,off,some p⟩) 0 0))\/∃b off c,v=.slice (some ⟨b,off,none⟩) l.length c/\c<dC/\l.length<=c/\
   (l=[]\/∃d e fr f,W.heap[b]? = some (.cells d e fr)/\P9 W f l (d.toList.drop off)))
 |.agg l,v=>∃a,v=.agg ⟨a⟩/\oL W l a/\l.length=a.length/\I8 l=true|_,_=>False
def oL(W:Ep):X U->X Value->Prop
 |[],_=>True|u::b,a=>match a with
  |[]=>False|v::a=>dF W u v/\oL W b a
def P9(W:Ep)(a:Nat):X (X U)->X Value->Prop
 |[],_=>True|c::d,b=>c.length=a/\I8 c=true/\oL W c b/\P9 W a d (b.drop a)
end
def cx(s:S):Cx:=⟨fun _=>none,⟨[],0⟩,s⟩
def Rt(s:S):Prop:=∀i b,lk s.h i=some b->gQ b=false
structure Grow(m:Nm)(s:S)(m':Nm)(s':S):Prop where
 agree:aP s.nx m m'
 nx:s.nx<=s'.nx
 rows:∀i b,lk s.h i=some b->lk s'.h i=some b
def Grow.refl(m:Nm)(s:S):Grow m s m s:=⟨aP.refl _ _,zF _,fun _ _ h=>h⟩
def Grow.trans{m d a:Nm}{s e c:S}(h:Grow m s d e)(h':Grow d e a c):Grow m s a c:=⟨h.agree.trans h'.agree h.nx,Zt h.nx h'.nx,fun i b f=>h'.rows i b<|h.rows i b f⟩
variable{m:Nm}{A:Nm}{s:S}{s':S}
def Grow.mo(h:Grow m s A s'):Mo 0 (cx s) (cx s'):=⟨fun k b=>af,fun i row e a=>h.rows i _ a⟩
def Grow.rel(h:Grow m s A s'){u:U}{v:Value}(a:aF (cx s) u v):aF (cx s') u v:=h.mo.ke u v (aF.K3 _ _ a) a
def Grow.sM(h:Grow m s A s'){l:X U}{a:X Value}(b:bD (cx s) l a):bD (cx s') l a:=h.mo.ke.E b.K3 b
def qyr(m:Nm)(n:Nat):oU m n [] []:=fun _ _=>by simp[aL]
def z54{n:Nat}{v a:Value}{d c:X Value}(h:jU m n v a)(e:oU m n d c):oU m n (v::d) (a::c):=fun A b=>by simp[aL,h A b,e A b]
def qll{x:Cx}{e:Nat}:∀{l:X (X U)}{a:X Value},bD x l.flatten a->(∀c∈l,c.length=e/\I8 c=true)->iS x e l a
 |[],a,h,b=>by simp[iS]
 |c::l,a,h,b=>by have⟨j,k⟩:=b c aZ;simp[iS];rw[YP]at h;refine⟨j,k,?_,qll (by have:=h.drop e;rwa [xn af,Ii af,X0]at this) fun d n=>b d<|by simp[n]⟩;rw[JL];intro i u f;have g:i<c.length:=(zG.1 f).1;exact h.get (by rw[mc g];exact f)
def qyt{W:Ep}{e:Nat}:∀{l:X (X U)}{b:X Value},P9 W e l b->∀c∈l,c.length=e/\I8 c=true
 |[],b,h=>by simp
 |d::l,b,h=>fun c a=>by simp[P9]at h;obtain rfl |a:=zI.1 a;exact⟨h.1,h.2.1⟩;exact qyt h.2.2.2 c a
def Got(W:Ep)(m:Nm)(s:S)(u:U)(a:Value):Prop:=∃A s' v,Grow m s A s'/\gZ A s' W/\Rt s'/\(∀i b,lk s'.h i=some b->i<s'.nx)/\jU A s'.nx v a/\aF (cx s') u v
def uk(W:Ep)(m:Nm)(s:S)(d:X U)(c:X Value):Prop:=∃A s' a,Grow m s A s'/\gZ A s' W/\Rt s'/\(∀i b,lk s'.h i=some b->i<s'.nx)/\oU A s'.nx a c/\bD (cx s') d a
mutual
def Az{W:Ep}:(u:U)->(r:Value)->dF W u r->∀m s,gZ m s W->Rt s->(∀i b,lk s.h i=some b->i<s.nx)->Got W m s u r
 |.bool b,r,h,m,s,g,f,o=>by simp[dF]at h;subst h;exact⟨m,s,.bool b,Grow.refl _ _,g,f,o,QR fun _=>by simp[H3],by simp[aF]⟩
 |.int k n,r,h,m,s,g,f,o=>by simp[dF]at h;subst h;exact⟨m,s,.int k n,Grow.refl _ _,g,f,o,QR fun _=>by simp[H3],by simp[aF]⟩
 |.str l,r,h,m,s,g,f,o=>by simp[dF]at h;subst h;exact⟨m,s,_,Grow.refl _ _,g,f,o,QR fun _=>by simp[H3],by simp[aF]⟩
 |.agg l,r,h,m,s,g,f,o=>by simp[dF]at h;obtain⟨X,rfl,O,P,Q⟩:=h;have⟨A,s',B,g1,g2,C,y,D,E⟩:=cj l X O m s g f o;rw[P,js]at D;exact⟨A,s',.agg ⟨B⟩,g1,g2,C,y,fun a w=>by simp[H3,D a w],by simp only[aF];exact⟨B,rfl,E.1,E.2,Q⟩⟩
 |.O t l,r,h,m,s,g,f,o=>by
  simp only[dF]at h;obtain⟨rfl,h⟩:=h;obtain⟨rfl,rfl |⟨b,off,p,rfl⟩⟩|⟨b,off,c,rfl,F,K,h⟩:=h;exact⟨m,s,.slice none 0 0,Grow.refl _ _,g,f,o,QR fun _=>by simp[H3],by simp[aF]⟩;refine⟨m.set s.nx b off p,⟨s.h,s.nx+1⟩,.chan<|some s.nx,⟨Nm.K1 _ _ _ _ _,MD _,fun _ _ h=>h⟩,(bS.ghost g b off p).fits,f,fun i b x=>Ze<|o i b x,fun A w=>?_,by simp[aF]⟩;obtain⟨q1,q2,q3⟩:=w s.nx<|zN _;simp[H3,q1,q2,q3,Nm.set];by_cases H:l=[];subst H;refine⟨m.set s.nx b off 0,⟨s.h,s.nx+1⟩,.slice (some ⟨s.nx,0,none⟩) 0 c,⟨Nm.K1 _ _ _ _ _,MD _,fun _ _ h=>h⟩,(bS.ghost g b off 0).fits,f,fun i b x=>Ze<|o i b x,fun A w=>?_,?_⟩;obtain⟨q1,q2,_⟩:=w s.nx<|zN _;simp[H3,q1,q2,Nm.set,dV,F];simp only[aF];exact .inr ⟨s.nx,0,c,rfl,by simp,.inl trivial⟩;obtain h |⟨N,e,fr,Y,V,hr⟩:=h;exact absurd h H;have⟨A,s',B,g1,g2,C,y,D,E⟩:=z5a l _ hr m s g f o;have M:=qyt hr;have I:∀a,aP (s'.nx+1) (A.set s'.nx b off 0) a->aP s'.nx A a:=fun a w=>(Nm.K1 A s'.nx b off 0).trans w (MD _)
  have J:∀a,aP (s'.nx+1) (A.set s'.nx b off 0) a->a.I5 s'.nx=b/\a.sh s'.nx=off:=fun a w=>by obtain⟨q1,q2,_⟩:=w s'.nx<|zN _;simp[Nm.set]at q1 q2;exact⟨q1,q2⟩
  refine⟨A.set s'.nx b off 0,⟨(s'.nx,.inl (B,0,1))::s'.h,s'.nx+1⟩,.slice (some ⟨s'.nx,0,none⟩) l.length c,g1.trans ⟨Nm.K1 _ _ _ _ _,MD _,fun i b x=>?_⟩,fun a w=>⟨fun i d q=>?_,fun i j d Z q L pF G=>?_,fun i d q=>?_⟩,fun i d q=>?_,fun i d q=>?_,fun a w=>?_,?_⟩;have:=y i b x;simp[nU,show s'.nx≠i by omega,x];simp[nU]at q;split at q;rename_i e;subst e;cases q;obtain⟨q1,q2⟩:=J a w;refine⟨N,e,fr,by rw[q1];exact V,fun k v T=>?_,fun n f=>absurd f aZ⟩;have:=congrArg (fun z=>z[k]?)<|D a<|I a w;simp only[nE,me,T,zM,jz,pc]at this;split at this;rw[q2];simpa using this.symm;cases this;exact(g2 a<|I a w).ok i d q;simp[nU]at q L;split at q;cases q;simp[gQ]at G;rw[C i d q]at G;cases G;simp[nU]at q;split at q;show i<s'.nx+1;omega;exact Ze<|y i d q;simp[nU]at q;split at q;cases q;rfl;exact C i d q;simp[nU]at q;split at q;show i<s'.nx+1;omega;exact Ze<|y i d q;obtain⟨q1,q2⟩:=J a w;simp[H3,q1,q2,dV,F];have R:Grow A s' (A.set s'.nx b off 0) ⟨(s'.nx,.inl (B,0,1))::s'.h,s'.nx+1⟩:=⟨Nm.K1 _ _ _ _ _,MD _,fun i b x=>by have:=y i b x;simp[nU,show s'.nx≠i by omega,x]⟩;simp only[aF];exact .inr ⟨s'.nx,0,c,rfl,by simp,.inr ⟨B,0,Y,by simp[cx,nU],qll (R.sM E) M,.inl ⟨F,K⟩⟩⟩
 |.J9,r,h,m,s,g,f,o=>by simp[dF]at h
 |.b6,r,h,m,s,g,f,o=>by simp[dF]at h
 |.ptr _ _ _,r,h,m,s,g,f,o=>by simp[dF]at h
 |.b4 _,r,h,m,s,g,f,o=>by simp[dF]at h
 |.J,r,h,m,s,g,f,o=>by simp[dF]at h
 |.sl _ _ _ _,r,h,m,s,g,f,o=>by simp[dF]at h
 |.vl _ _ _ _,r,h,m,s,g,f,o=>by simp[dF]at h
 |.e6,r,h,m,s,g,f,o=>by simp[dF]at h
 |.map _,r,h,m,s,g,f,o=>by simp[dF]at h
 |.fn _ _ _,r,h,m,s,g,f,o=>by simp[dF]at h
 |.e9,r,h,m,s,g,f,o=>by simp[dF]at h
 |.k9,r,h,m,s,g,f,o=>by simp[dF]at h
 |.a7 _,r,h,m,s,g,f,o=>by simp[dF]at h
def cj{W:Ep}:(a:X U)->(c:X Value)->oL W a c->∀m s,gZ m s W->Rt s->(∀i b,lk s.h i=some b->i<s.nx)->uk W m s a (c.take a.length)
 |[],c,h,m,s,d,e,f=>⟨m,s,[],Grow.refl _ _,d,e,f,by simpa using qyr m s.nx,bD.nil _⟩|u::a,[],h,m,s,d,e,f=>by simp[oL]at h
 |u::a,l::c,h,m,s,d,e,f=>by simp[oL]at h;have⟨A,s',v,g1,g2,n,o,p,q⟩:=Az u l h.1 m s d e f;have⟨j,k,z,g,r,t,w,x,y⟩:=cj a c h.2 A s' g2 n o;exact⟨j,k,v::z,g1.trans g,r,t,w,by simpa using z54 (p.ext g.agree g.nx) x,bD.cons (g.rel q) y⟩
def z5a{W:Ep}{d:Nat}:(l:X (X U))->(a:X Value)->P9 W d l a->∀m s,gZ m s W->Rt s->(∀i b,lk s.h i=some b->i<s.nx)->uk W m s l.flatten (a.take<|l.length*d)
 |[],a,h,m,s,g,j,k=>⟨m,s,[],Grow.refl _ _,g,j,k,by simpa using qyr m s.nx,bD.nil _⟩|c::l,a,h,m,s,g,j,k=>by
  simp[P9]at h;have⟨A,s',v,g1,g2,p,q,r,t⟩:=cj c a h.2.2.1 m s g j k;have⟨n,o,B,f,u,w,x,y,z⟩:=z5a l _ h.2.2.2 A s' g2 p q;refine⟨n,o,v++B,g1.trans f,u,w,x,?_,by rw[YP];exact(f.sM t).append z⟩;have e:a.take ((c::l).length*d)=a.take c.length++(a.drop d).take (l.length*d):=by rw[zO,eM,zv,NB,h.1]
  rw[e];exact(r.ext f.agree f.nx).append y
end
def jS{P:Ua}{f:FuncId}{d:X U}{W:Ep}{args:X Value}(h:b7 P f d ⟨[],0⟩ (fun u _=>u=.bool true))(H:oL W d args)(z:d.length=args.length):
  Calls P f args.toArray W fun e o=>e=.returned (.bool true)/\RowKit.Below W.heap.size W o:=by have w:gZ ⟨id,id,id⟩ ⟨[],0⟩ W:=fun A _=>⟨fun i b a=>by simp[lk]at a,fun i j b c a=>by simp[lk]at a,fun i b a=>by simp[lk]at a⟩;have⟨m,s,C,g1,g2,q,r,l,t⟩:=cj d args H ⟨id,id,id⟩ ⟨[],0⟩ w (fun i b a=>by simp[lk]at a) (fun i b a=>by simp[lk]at a);rw[z,js]at l;refine(h (fun _ _=>False) (cx s) C m W args rfl ⟨fun k b a=>by simp[cx,gt]at a,fun k G b E i a=>by simp[cx,gt]at a,r⟩ (fun _ _ O=>O.elim) t g2 l).mono ?_;rintro e o ⟨y,D,u,v,F,rfl,rfl,p,B,_,_,g,_,_⟩;simp[aF]at g;subst g;have:=B.at;simp[H3]at this;exact⟨by rw[<-this],p.below fun b ⟨i,c,x,n,_⟩=>by rw[q i c x]at n;cases n⟩
def J3(P:Ua):Nat->TypeId->X U->Prop
 |0,_,_=>False|n+1,t,a=>match P.underlying t with
  |some .bool=>∃b,a=[.bool b]|some (.int k)=>∃i,a=[.int k i]/\(Lit.int k i).wf=true
  |some .string=>∃s,a=[.str s]/\s.length<=maxLen|some (.slice e)=>∃l,a=[.O false l]/\l.length<=maxLen/\∀c∈l,J3 P n e c
  |some (.struct d)=>a.length=P.cellsOf t/\∀f∈d.toList,J3 P n f.type ((a.drop f.offset).take (P.cellsOf f.type))|some (.array k e)=>a.length=P.cellsOf t/\∀i,i<k->J3 P n e ((a.drop<|i*P.cellsOf e).take (P.cellsOf e))
  |_=>False
end Go.Vx
namespace Go.Vx
open Go Go.Rx
variable{tm:X U}{tm':X U}
def M'{l:X He}(h:∀t∈tmpsOf l,tm[t]? = tm'[t]?){x:He}(a:x∈l):cX tm x=cX tm' x:=by cases x with|tmp t=>simp[cX,lW];exact h t (z01 a)|_=>rfl
def Xc{l:X He}(h:∀x∈l,cX tm x=cX tm' x):pT tm l=pT tm' l:=by induction l with|nil=>rfl|cons x l b=>simp[pT];rw[h x aZ,b fun y a=>h y<|by simp[a]]
def qla{l:X (Nat×He)}(h:∀x∈l.map (·.2),cX tm x=cX tm' x):BW tm l=BW tm' l:=by induction l with|nil=>rfl|cons x l b=>have⟨i,x⟩:=x;simp[BW];rw[h x aZ,b fun y a=>h y (by simp only[zQ,zI];exact .inr a)]
def ql9{x:V He}(h:∀y,x=some y->cX tm y=cX tm' y):D1 tm x=D1 tm' x:=by obtain _|y:=x;rfl;simp[D1];rw[h y rfl]
section
variable{T:Tb}{tm tm':X U}{Y:Sg}{op:Op}
def qvy(h:∀x∈op.operands.toList,cX tm x=cX tm' x):iV T Y tm op=iV T Y tm' op:=by
 cases op<;>simp only[Op.operands]at h<;>try rfl
 case move x=>simp only[iV];exact h x aZ
 case assign x=>simp only[iV];exact h x aZ
 case pick c a b=>simp only[iV];rw[h c aZ,h a aZ,h b aZ]
 case build t ps=>simp only[iV];rw[qla<|by simpa using h]
 case nilCheck x=>simp only[iV];rw[h x aZ]
 case binOp o t x y ty=>simp only[iV];rw[h x aZ,h y aZ]
 case unOp o t x=>simp only[iV];rw[h x aZ]
 case convert a b x=>simp only[iV];rw[h x aZ]
 case makeFunc f a b=>simp only[iV];rw[Xc fun x d=>h x (by simp at d ⊢;exact .inl d),Xc fun x d=>h x (by simp at d ⊢;exact .inr d)]
 case slice t x lo hi g=>
  cases g with|some _=>rfl|none=>
  simp only[iV];rw[h x aZ,ql9 (x:=lo) fun y e=>h y (by subst e;simp),ql9 (x:=hi) fun y e=>h y (by subst e;simp)]
 case fieldAddr t x f=>simp only[iV];rw[h x aZ]
 case field t x f=>simp only[iV];rw[h x aZ]
 case indexAddr t x i=>simp only[iV];rw[h x aZ,h i aZ]
 case index t x i=>simp only[iV];rw[h x aZ,h i aZ]
 case extract x i=>simp only[iV];rw[h x aZ]
 case call c=>simp[iV];rw[Xc (l:=c.args.toList) fun x d=>h x (by simp[Call.operands]at d ⊢;exact .inr d)]
def qw2(h:∀x∈op.operands.toList,cX tm x=cX tm' x):tB T Y tm op=tB T Y tm' op:=by
 cases op<;>simp only[Op.operands]at h<;>try rfl
 case load t x=>simp only[tB];rw[h x aZ]
def qzq(h:∀x∈op.operands.toList,cX tm x=cX tm' x):sW T Y tm op=sW T Y tm' op:=by
 cases op<;>simp only[Op.operands]at h<;>try rfl
 case box t x=>simp only[sW];rw[h x aZ]
 case store t x y=>simp only[sW];rw[h x aZ,h y aZ]
 case buildSlice t n ps=>simp only[sW];rw[qla<|by simpa using h]
 case makeSlice t x y=>simp only[sW];rw[h x aZ,h y aZ]
 case makeMap t r=>cases r<;>rfl
 case call c=>simp[sW];rw[Xc (l:=c.args.toList) fun x a=>h x (by simp[Call.operands]at a ⊢;exact .inr a)]
def Tt(h:∀x∈op.operands.toList,cX tm x=cX tm' x):kQ T tm op=kQ T tm' op:=by
 cases op<;>simp[Op.operands]at h<;>try rfl
 case call c=>
  simp[kQ];rw[Xc (l:=c.args.toList) fun x a=>h x (by simp[Call.operands]at a ⊢;exact .inr a)];cases b:c.callee with
  |value f=>simp[];rw[h f<|by simp[Call.operands,b]]|_=>rfl
def LJ(h:∀x∈op.operands.toList,cX tm x=cX tm' x):bJ T Y tm op=bJ T Y tm' op:=by unfold bJ;rw[qvy h,qw2 h,qzq h]
end
def Es{b:X Oper}{o:Oper}(h:∀t∈Q3 b o,tm[t]? = tm'[t]?):(∀x∈o.op.operands.toList,cX tm x=cX tm' x)/\cE b tm o=cE b tm' o:=by
 unfold Q3 at h;unfold cE;cases e:o.guard with
 |none=>simp[e]at h;exact⟨fun x a=>M' h a,rfl⟩|some g=>
  have⟨j,f⟩:=g;simp[e]at h;cases c:CZ b j with
  |none=>simp[c]at h;exact⟨fun x a=>M' h a,by simp[c]⟩|some d=>simp only[c]at h;refine⟨fun x a=>M' (fun t i=>h t<|by simp[i]) a,?_⟩;simp only[c,lW];rw[h d aZ]
variable{K:Nat}{k:Nat}
def si(h:Nat.beq k K=false)(b:B)(a st off n:Nat):fz K b a (.vl k st off n)=.vl k st off n:=by simp[fz,h]
def XL(h:Nat.beq k K=false)(b:B)(a off n c:Nat):fz K b a (.sl k off n c)=.sl k off n c:=by simp[fz,h]
def XN(h:Nat.beq k K=false)(b:B)(a st off:Nat):fz K b a (.ptr k st off)=.ptr k st off:=by simp[fz,h]
def XM(K:Nat)(l:X U)(e:TypeId)(a n:Nat)(h:n*a<=l.length):fz K (.row l e) a (.sl K 0 n n)=.O false (bR a n l):=by
 have:Nat.beq n n=true:=by simp[beq_eq]
 simp[fz,beq_eq,h]
def kj(K:Nat)(l:X U)(e:TypeId)(a:Nat):fz K (.row l e) a (.ptr K 0 0)=.b4 l:=by simp[fz,beq_eq]
def FS(K:Nat)(b:B)(a:Nat)(k:IntKind)(n:Int):fz K b a (.int k n)=.int k n:=by simp[fz]
def O0(K:Nat)(b:B)(a:Nat)(x:FK):fz K b a (.bool x)=.bool x:=by simp[fz]
def UW(K:Nat)(b:B)(a:Nat)(x:X Yv):fz K b a (.str x)=.str x:=by simp[fz]
def QC(K:Nat)(b:B)(a:Nat):fz K b a .J=.J:=by simp[fz]
def By(K:Nat)(b:B)(a:Nat):fz K b a .b6=.b6:=by simp[fz]
def Bz(K:Nat)(b:B)(a:Nat):fz K b a .e6=.e6:=by simp[fz]
def Ca(K:Nat)(b:B)(a:Nat):fz K b a .e9=.e9:=by simp[fz]
def V2(K:Nat)(b:B)(a:Nat):fz K b a .J9=.J9:=by simp[fz]
def JJ(K:Nat)(b:B)(a:Nat)(t:FK)(l:X (X U)):fz K b a (.O t l)=.O t l:=by simp[fz]
def Bu(K:Nat)(b:B)(a:Nat)(k:Nat):fz K b a (.map k)=.map k:=by simp[fz]
def Q6(K:Nat)(b:B)(a:Nat)(l:X U):fz K b a (.agg l)=.agg (iO K b a l):=by simp[fz]
def UV(K:Nat)(b:B)(a:Nat)(l:X U):fz K b a (.a7 l)=.a7 (iO K b a l):=by simp[fz]
def UN(K:Nat)(b:B)(d:Nat)(f:Fn)(a c:X U):fz K b d (.fn f a c)=.fn f (iO K b d a) (iO K b d c):=by simp[fz]
def y3(K:Nat)(b:B)(a:Nat):iO K b a []=[]:=by simp[iO]
def v6(K:Nat)(b:B)(a:Nat)(u:U)(l:X U):iO K b a (u::l)=fz K b a u::iO K b a l:=by simp[iO]
mutual
def Q5{K:Nat}(b:B)(d:Nat):(u:U)->aW K u->fz K b d u=u
 |.sl k _ _ _,h=>XL (by simp[aW]at h;simp[beq_eq];omega) _ _ _ _ _|.vl k _ _ _,h=>si (by simp[aW]at h;simp[beq_eq];omega) _ _ _ _ _
 |.ptr k _ _,h=>XN (by simp[aW]at h;simp[beq_eq];omega) _ _ _ _|.agg l,h=>by simp[aW]at h;rw[Q6,vS b d l h]
 |.a7 l,h=>by simp[aW]at h;rw[UV,vS b d l h]
 |.fn f a c,h=>by simp[aW]at h;rw[UN,vS b d a h.1,vS b d c h.2]
 |.int _ _,_=>FS _ _ _ _ _|.bool _,_=>O0 _ _ _ _
 |.str _,_=>UW _ _ _ _|.J,_=>QC _ _ _
 |.b6,_=>By _ _ _|.e6,_=>Bz _ _ _
 |.e9,_=>Ca _ _ _|.k9,_=>by simp[fz]
 |.J9,_=>V2 _ _ _|.O _ _,_=>JJ _ _ _ _ _
 |.b4 _,_=>by simp[fz]
 |.map _,_=>Bu _ _ _ _
def vS{K:Nat}(b:B)(a:Nat):(l:X U)->aH K l->iO K b a l=l
 |[],_=>y3 _ _ _|u::l,h=>by simp[aH]at h;rw[v6,Q5 b a u h.1,vS b a l h.2]
end
variable{x:Cx}
def oR.kU{b:B}(h:oR x k b):cc x.Y.nx b:=by
 cases b with
 |row l e=>have⟨_,_,_,_,_,a⟩:=h;exact a.K3
 |vec l e n st=>have⟨_,_,d⟩:=h;obtain⟨rfl,_⟩|⟨_,_,_,_,a⟩:=d;simp[cc,aH];exact a.K3
 |map m i=>have⟨_,c,_,_,a⟩:=h;intro e f;obtain⟨j,g,rfl⟩:=Kh f;obtain⟨v,_,q2,q3,_⟩:=a.2 j _<|lq g;exact⟨aF.K3 _ _ q2,aF.K3 _ _ q3⟩
variable{n0:Nat}{Y:Sg}
def Gh.same(g:X (Nat×B))(f:∀k,gt g k=gt Y.h k):Gh n0 tm Y tm ⟨g,Y.nx⟩:=fun F x C y D p q=>by
 subst y;have n:Mo x.Y.nx x ⟨x.I,⟨g,x.Y.nx⟩,x.s⟩:=⟨fun k _ d=>⟨d,fun b a=>⟨b,by rw[<-f];exact a,zF _,fun _=>⟨rfl,fun l e A st h=>⟨l,h⟩⟩⟩⟩,fun _ _ _ h=>h⟩;refine⟨⟨x.I,⟨g,x.Y.nx⟩,x.s⟩,fun m w p=>bS.refl p,rfl,⟨fun k b a=>?_,fun k z b r i a j=>?_,D.bd⟩,fun i b O=>?_,n.ke.E q.K3 q,fun u v a D=>n.ke u v (aF.K3 u v D) D⟩;have j:gt x.Y.h k=some b:=by rw[<-f];exact a
 have⟨o,d⟩:=D.ok k b j;exact⟨o,d.mono n rfl fun _ _ _ h=>h⟩;exact D.inj k z b r i (by rw[<-f];exact a) (by rw[<-f];exact j);have⟨o,d⟩:=p i b O;exact⟨o,fun k c t=>d k c (by rw[<-f];exact t)⟩
variable{T:Tb}{op:Op}
def z1k{q:FuncId×X U}(h:kQ T tm op=some q):bJ T Y tm op=none:=by
 cases op with
 |call c=>
  simp[kQ]at h;cases a:c.callee with
  |value f=>simp[bJ,iV,tB,sW,a]|_=>simp[a]at h
 |_=>simp[kQ]at h
def Gh.pU{n1:Nat}(o:n0<=n1)(v:n1<=Y.nx)(d:aH n1 tm)(r:∀k b,gt (Vx.cut n1 Y.h) k=some b->cc n1 b):Gh n0 tm Y tm ⟨Vx.cut n1 Y.h,n1⟩:=fun F x z t A f q=>by
 subst t;have g:Mo n1 x ⟨x.I,⟨Vx.cut n1 x.Y.h,n1⟩,x.s⟩:=by refine⟨fun k j _=>⟨j,fun b d=>?_⟩,fun _ _ _ h=>h⟩;simp[Bt,j,It]at d;exact⟨b,d,zF _,fun _=>⟨rfl,fun l e y st h=>⟨l,h⟩⟩⟩
 have sub:∀{k b},gt (Vx.cut n1 x.Y.h) k=some b->k<n1/\gt x.Y.h k=some b:=fun{k b} a=>by simp only[Bt]at a;split at a;exact⟨by assumption,a⟩;cases a
 refine⟨⟨x.I,⟨Vx.cut n1 x.Y.h,n1⟩,x.s⟩,fun m w f=>bS.refl f,rfl,⟨fun k b a=>?_,fun k u b n i g1 g2=>A.inj k u b n i (sub g1).2 (sub g2).2,A.bd⟩,fun i b O=>?_,g.ke.E d q,g.ke.le o⟩;exact⟨(sub a).1,(A.ok k b (sub a).2).2.kN (r k b a) g rfl fun _ _ _ h=>h⟩;exact⟨(f i b O).1,fun k c p=>(f i b O).2 k c (sub p).2⟩
def qp2{k:Nat}(b:Nat):∀(n:Nat)(l:X U),aH k l->lU k (bR b n l)
 |0,l,_=>by simp[bR,lU]
 |n+1,l,h=>by simp[bR,lU];exact⟨(y4 k _).2 fun u a=>(y4 k _).1 h u (Ey a),qp2 b n _<|(y4 k _).2 fun u a=>(y4 k _).1 h u (A' a)⟩
def uY(P:Ua)(T:Tb)(tm:X U)(op:Op)(u:U):Prop :=
 (∃f args,kQ T tm op=some (f,args)/\∀s,b7 P f args s fun b Y=>b=u/\Y=s)\/ (∃n c a e,(∀Y,bJ T Y tm op=some (.sl Y.nx 0 n n,bE Y<|.row a e))/\n*c<=a.length/\(∀m,(∀x∈op.operands.toList,∀b,cX tm x=some b->aW m b)->aH m a)/\u=.O false (bR c n a))
def Gh.quiet{n c:Nat}{a:X U}{e:TypeId}{d:V Tmp}(z:n0<=Y.nx)(f:aH Y.nx tm)(j:∀k b,gt Y.h k=some b->k<Y.nx/\cc Y.nx b)(A:n*c<=a.length)(p:aH Y.nx a):Gh n0 (eS tm d<|.sl Y.nx 0 n n) (bE Y<|.row a e) (eS tm d<|.O false<|bR c n a) Y:=by
 have v:gt (bE Y<|.row a e).h Y.nx=some (.row a e):=by simp[bE,aR]
 have y:iO Y.nx (.row a e) c (eS tm d<|.sl Y.nx 0 n n)=eS tm d (.O false<|bR c n a):=by
  obtain _|t:=d;simp[eS];exact vS _ _ _ f;simp[eS];have key:∀(l:X U)(t:Nat),aH Y.nx l->iO Y.nx (.row a e) c (l.set t<|.sl Y.nx 0 n n)=l.set t (.O false<|bR c n a):=by
   intro l;induction l with
   |nil=>intro t _;simp[iO]|cons u l m=>
    intro t h;simp[aH]at h;cases t with
    |zero=>simp only[LO,v6,vS _ _ l h.2,XM Y.nx a e c n A]|succ t=>simp[Q',v6,Q5 _ _ u h.1,m t h.2]
  exact key tm t f
 have r:aH Y.nx (eS tm d<|.O false<|bR c n a):=by
  obtain _|t:=d;simpa only[eS]using f;simp[eS];have key:∀(l:X U)(t:Nat),aH Y.nx l->aH Y.nx (l.set t<|.O false<|bR c n a):=by
   intro l;induction l with
   |nil=>intro t _;simp[aH]|cons u l m=>
    intro t h;simp[aH]at h;cases t with
    |zero=>simp[LO,aH];exact⟨by simp[aW];exact qp2 c n a p,h.2⟩|succ t=>simp[Q',aH];exact⟨h.1,m t h.2⟩
  exact key tm t f
 have o:∀k,gt (Vx.cut Y.nx<|dd Y.nx (.row a e) c (bE Y<|.row a e).h) k=gt Y.h k:=fun k=>by
  rw[Bt];by_cases i:k<Y.nx;rw[lr i,D0,hF af];have:gt (bE Y<|.row a e).h k=gt Y.h k:=by simp only[bE,aR];rw[hF af]
  rw[this];rcases g:gt Y.h k with _|b;rfl;have f:=(j k b g).2;simp[zM,zA];cases b with
  |row l e=>simp[ek];rw[vS _ _ _ f]|vec l e s st=>simp[ek];rw[vS _ _ _ f]
  |map w C=>
   simp[ek];congr 1;have:∀q∈w,({ q with val:=fz Y.nx (.row a e) c q.val }:_)=q:=fun q B=>by rw[Q5 _ _ _ (f q B).2]
   exact(X2 this).trans (LB _)
  rw[hF i];rcases g:gt Y.h k with _|b;rfl;exact absurd (j k b g).1 i
 refine(Gh.freeze (n0:=n0) c v aZ).trans ?_;rw[y];refine(Gh.pU (n0:=n0) (n1:=Y.nx) z (by simp[bE]) r ?_).trans ?_;intro k b g;rw[o]at g;exact(j k b g).2;exact Gh.same (Y:=⟨Vx.cut Y.nx<|dd Y.nx (.row a e) c (bE Y<|.row a e).h,Y.nx⟩) Y.h fun k=>(o k).symm
variable{P:Ua}{u:U}
def uY.yS(h:uY P T tm op u)(Y:Sg):bJ T Y tm op≠some (u,Y):=fun a=>by
 obtain⟨f,args,h,_⟩|⟨n,c,b,e,h,_⟩:=h;rw[z1k h]at a;cases a;rw[h Y]at a;simp[zA,zB]at a;have:=congrArg Sg.nx a.2;simp only[bE]at this;omega
def uY.congr(h:∀x∈op.operands.toList,cX tm x=cX tm' x)(j:uY P T tm' op u):uY P T tm op u:=by obtain⟨f,args,a,b⟩|⟨n,o,d,e,a,b,g,i⟩:=j;exact .inl ⟨f,args,(Tt h).trans a,b⟩;exact .inr ⟨n,o,d,e,fun Y=>(LJ h).trans (a Y),b,fun m hm=>g m fun x c p l=>hm x c p<|(h x c).trans l,i⟩
def uY.nd(h:uY P T tm op u):∀c,op≠.defer c:=by obtain⟨f,args,a,_⟩|⟨n,d,b,e,a,_⟩:=h;exact I' a;exact UU (a ⟨[],0⟩)
variable{F:Nat->nT->Prop}
def St.free(D:jW P T){W:X Value}{m:Nm}{w:Ep}{a:Act}(st:St F x tm W m w a)(o:Oper)(h:uY P T tm o.op u){next:Act->Ep->Prop}{Q:Exit->Act->Ep->Prop}
  (G:∀y l g c i,y.Y=x.Y->St F y (eS tm o.dst u) l g c i->bS m x.s w g y.s c->Ke x.Y.nx x y->x.Y.nx<=y.Y.nx->i.defers=a.defers->next i c):o.wp P a w next Q:=by
 obtain⟨f,args,t,A⟩|⟨n,sz,Z,e,t,A,R,rfl⟩:=h;refine st.call D o t (A x.Y) fun y I l g c i S j q r H C=>?_
 obtain⟨rfl,B⟩:=S;exact G y l g c i B j q r H C;refine st.op D o (t x.Y) fun y l g c i J j q r H C=>?_;have⟨z,g1,g2,L,M,N,O⟩:=Gh.quiet (n0:=x.Y.nx) (Y:=x.Y) (d:=o.dst) (e:=e) (zF _) st.e.K3 (fun k b E=>⟨(st.h.ok k b E).1,(st.h.ok k b E).2.kU⟩) A (R _ fun xo _ I V=>by obtain⟨v,_,hr⟩:=kG st.e V;exact aF.K3 I v hr) F y l J j.h j.fr j.e;have p:=g1 g c j.fits;exact G z l g c i g2 ⟨L,M,N,p.fits,j.act.ext p.agree p.nx⟩ (q.trans p) (r.trans O) (by rw[g2];exact zF _) C
def St.sS(hT:jW P T){tv:X Value}{m:Nm}{w:Ep}{a:Act}(st:St F x tm tv m w a)(o:Oper){O:U}{A H:Sg}{d:Nat}(uJ:bJ T x.Y tm o.op=some (O,A))(hd:o.dst=some d)(J:d<tm.length)
  (hg:Gh A.nx [O] A [u] H) (hn:A.nx<=H.nx) {next:Act->Ep->Prop} {Q:Exit->Act->Ep->Prop}
  (C:∀y p g b j,y.Y=H->St F y (eS tm o.dst u) p g b j->bS m x.s w g y.s b->Ke x.Y.nx x y->x.Y.nx<=y.Y.nx->j.defers=a.defers->next j b):o.wp P a w next Q:=by
 refine st.op hT o uJ fun y p g b j q l R S N iT=>?_;have c:=l.e;rw[hd]at c C;simp[eS]at c C;have⟨v1,G,D⟩:=c.get (YO<|by simpa using J);obtain⟨z,g1,g2,V,W,Z,L⟩:=hg F y [v1] q l.h l.fr<|bD.cons D<|bD.nil y;have r:=g1 g b l.fits;have⟨v1',_,n,E,_⟩:=Z.inv;cases n;have B:bD z (tm.set d u) p:=by refine⟨(JL z _ _).2 fun i I f=>?_,by have:=c.2;simpa using this⟩;by_cases t:d=i;subst t;rw[YO<|by simpa using J]at f;cases f;exact⟨v1,G,E⟩;rw[mz t]at f;have⟨v,hv,hr⟩:=c.get (i:=i) (u:=I) (by rw[mz t];exact f);refine⟨v,hv,L I v ?_ hr⟩;have M:=(y4 y.Y.nx _).1 c.K3 I (by rw[mem_iff_getElem?];exact⟨i,by rw[mz t];exact f⟩);rw[q]at M;exact M
 exact C z p g b j g2 ⟨V,W,B,r.fits,l.act.ext r.agree r.nx⟩ (R.trans r) (S.trans<|L.le (by rw[<-q];exact N)) (by rw[g2];rw[q]at N;omega) iT
structure eX where
 tm:X U
 o:Oper
 u:U
 act:FK
 mv:FK
 s:Sg
 s':Sg
def Good(P:Ua)(T:Tb)(a:X Oper)(r:eX):Prop :=
 (cE a r.tm r.o=some false/\r.u=.a7 []/\r.act=false/\r.s'=r.s)\/ (cE a r.tm r.o=some true/\bJ T r.s r.tm r.o.op=some (r.u,r.s')/\(r.act=false->r.s'=r.s))\/ (cE a r.tm r.o=some true/\r.act=true/\∃f args,kQ T r.tm r.o.op=some (f,args)/\b7 P f args r.s (fun u Y=>u=r.u/\Y=r.s'))\/ (cE a r.tm r.o=some true/\r.act=false/\r.s'=r.s/\uY P T r.tm r.o.op r.u)\/ (r.act=false/\r.mv=true/\r.s'=r.s)\/ (cE a r.tm r.o=some true/\r.act=true/\∃c b d,bJ T r.s r.tm r.o.op=some (c,b)/\r.o.dst=some d/\d<r.tm.length/\Gh b.nx [c] b [r.u] r.s'/\b.nx<=r.s'.nx)
variable{r:eX}
def Good.quiet{b:X Oper}(h:Good P T b r)(a:r.act=false):r.s'=r.s:=by obtain⟨_,_,_,h⟩|⟨_,_,h⟩|⟨_,h,_⟩|⟨_,_,h,_⟩|⟨_,_,h⟩|⟨_,h,_⟩:=h;exact h;exact h a;rw[a]at h;cases h;exact h;exact h;rw[a]at h;cases h
def lE(b:X eX)(a:Sg)(p:Nat):Sg:=match b[p]? with
 |some r=>r.s|none=>a
def yO(a:X eX)(tm':X U)(p:Nat):X U:=match a[p]? with
 |some r=>r.tm|none=>tm'
structure p?(P:Ua)(T:Tb)(aC:X Oper)(tm₀:X U)(IJ:Sg)(rs:X eX)(tm':X U)(Y':Sg):Prop where
 len:rs.length=aC.length
 s0:lE rs Y' 0=IJ
 t0:yO rs tm' 0=tm₀
 all:∀(i:Nat)(r:eX),rs[i]? = some r->aC[i]? = some r.o/\Good P T aC r/\lE rs Y' (i+1)=r.s'/\yO rs tm' (i+1)=eS r.tm r.o.dst r.u
structure ChU(T:Tb)(aC:X Oper)(rs:X eX):Prop where
 p8:∀(i k:Nat)(r q:eX),rs[i]? = some r->rs[k]? = some q->r.act=true->q.act=true->k<i->fS aC i k
 lo:∀(i k:Nat)(r q:eX),rs[i]? = some r->rs[k]? = some q->r.act=false->cE aC r.tm r.o=some true->bJ T r.s r.tm r.o.op=some (r.u,r.s')->q.act=true->k<i->fS aC i k\/q.s=r.s\/bJ T q.s r.tm r.o.op=some (r.u,q.s)
 hi:∀(i k:Nat)(r q:eX),rs[i]? = some r->rs[k]? = some q->r.act=false->cE aC r.tm r.o=some true->bJ T r.s r.tm r.o.op=some (r.u,r.s')->q.act=true->i<k->fS aC k i\/q.s'=r.s\/bJ T q.s' r.tm r.o.op=some (r.u,q.s')
structure Q2(tm₀:X U)(rs:X eX)(L:Nat->Prop)(tm:X U):Prop where
 len:tm.length=tm₀.length
 yes:∀(k:Nat)(r:eX)(d:Nat),rs[k]? = some r->r.o.dst=some d->d<tm₀.length->L k->tm[d]? = some r.u
 no:∀(k:Nat)(r:eX)(d:Nat),rs[k]? = some r->r.o.dst=some d->¬ L k->tm[d]? = tm₀[d]?
 other:∀(t:Nat),(∀(k:Nat)(r:eX),rs[k]? = some r->r.o.dst≠some t)->tm[t]? = tm₀[t]?
section
variable{P:Ua}{T:Tb}(g:jW P T)(j:Jg Oper){tm₀:X U}{l:Sg}{rs:X eX}{tm':X U}{Y':Sg}
 (kA:p? P T j.toList tm₀ l rs tm' Y') (dJ:Co j.toList=true)
include kA dJ
omit dJ in
def Aw{i:Nat}{o:Oper}(a:j.toList[i]? = some o):∃r,rs[i]? = some r/\r.o=o:=by
 have b:i<rs.length:=by rw[kA.len];exact(zG.1 a).1
 have c:rs[i]? = some rs[i]:=by simp[b]
 refine⟨_,c,?_⟩;have:=(kA.all i _ c).1;rw[a]at this;exact(Option.some.inj this).symm
variable{i:Nat}
def qx5{q:eX}(e:rs[i]? = some r)(c:rs[k]? = some q)(a:i≠k){d:Tmp}(b:q.o.dst=some d):r.o.dst≠some d :=
 (z5s dJ (kA.all i r e).1 (kA.all k q c).1 a b).1
def que{L:Nat->Prop}(h:Q2 tm₀ rs L tm)(w:rs[i]? = some r):Q2 tm₀ rs (fun k=>L k\/k=i) (eS tm r.o.dst r.u):=by
 cases m:r.o.dst with
 |none=>simp[eS];refine⟨h.len,fun k q d c b p a=>?_,fun k q d c b a=>h.no k q d c b fun x=>a<|.inl x,h.other⟩;obtain a |rfl:=a;exact h.yes k q d c b p a;rw[w]at c;cases c;rw[m]at b;cases b
 |some s=>
  simp[eS];refine⟨by simp[h.len],fun k q d c b p a=>?_,fun k q d c b a=>?_,fun t v=>?_⟩;by_cases n:k=i;subst n;rw[w]at c;cases c;rw[m]at b;cases b;rw[YO (by rw[h.len];exact p)];have f:s≠d:=fun e=>by have:=qx5 j kA dJ w c (fun x=>n x.symm) b;exact this (by rw[m,e])
  rw[mz f];obtain a |a:=a;exact h.yes k q d c b p a;exact absurd a n;have n:k≠i:=fun e=>a (.inr e)
  have f:s≠d:=fun e=>by have:=qx5 j kA dJ w c (fun x=>n x.symm) b;exact this (by rw[m,e])
  rw[mz f];exact h.no k q d c b fun x=>a<|.inl x;have f:s≠t:=fun e=>v i r w (by rw[m,e]);rw[mz f];exact h.other t v
omit kA dJ in
def qpr:Q2 tm₀ rs (fun _=>False) tm₀:=⟨rfl,fun _ _ _ _ _ _ h=>h.elim,fun _ _ _ _ _ _=>rfl,fun _ _=>rfl⟩
def OW(p:Nat)(t:p<=rs.length):Q2 tm₀ rs (fun k=>k<p) (yO rs tm' p):=by
 induction p with
 |zero=>rw[kA.t0];have:=qpr (rs:=rs) (tm₀:=tm₀);refine⟨this.len,fun k r d _ _ _ f=>af,fun k r d m n _=>this.no k r d m n fun x=>x,this.other⟩|succ p s=>
  have v:rs[p]? = some rs[p]:=by simp[show p<rs.length by omega]
  have o:=(kA.all p _ v).2.2.2;have e:=s af;have h:yO rs tm' p=rs[p].tm:=by simp[yO,v]
  rw[h]at e;have:=que j kA dJ e v;rw[o];refine⟨this.len,fun k q d a b c f=>this.yes k q d a b c af,fun k q d a b f=>this.no k q d a b af,this.other⟩
omit kA dJ in
def z0e{L:Nat->Prop}{a b:X U}(e:Q2 tm₀ rs L a)(f:Q2 tm₀ rs L b):a=b:=by
 apply od;intro t;by_cases h:∀(k:Nat)(r:eX),rs[k]? = some r->r.o.dst≠some t;rw[e.other t h,f.other t h];have:∃(k:Nat)(r:eX),rs[k]? = some r/\r.o.dst=some t:=by apply qj;intro n;exact h fun k r p c=>n ⟨k,r,p,c⟩
 have⟨k,r,p,c⟩:=this;by_cases d:L k;by_cases m:t<tm₀.length;rw[e.yes k r t p c m d,f.yes k r t p c m d];rw[YQ (by rw[e.len];omega),YQ (by rw[f.len];omega)];rw[e.no k r t p c d,f.no k r t p c d]
def qwa{L:Nat->Prop}(w:eA j.toList L)(h:Q2 tm₀ rs L tm)(G:rs[i]? = some r)(y:¬ L i)
  (z:∀o,j.toList[i]? = some o->∀e∈o.after.toList,Region.binds .any e=true->L e.on):∀t∈Q3 j.toList r.o,tm[t]? = r.tm[t]?:=by
 have E:i<rs.length:=(zG.1 G).1;have c:=OW j kA dJ i<|ep E;have A:yO rs tm' i=r.tm:=by simp[yO,G]
 rw[A]at c;intro(t:Nat) ht;by_cases f:∀(k:Nat)(q:eX),rs[k]? = some q->q.o.dst≠some t;rw[h.other t f,c.other t f];have:∃(k:Nat)(q:eX),rs[k]? = some q/\q.o.dst=some t:=by apply qj;intro C;exact f fun k r G a=>C ⟨k,r,G,a⟩
 have⟨k,q,b,a⟩:=this;have D:=(kA.all i r G).1;have B:=(kA.all k q b).1;by_cases p:i=k;subst p;rw[h.no i q t b a y,c.no i q t b a af];rcases(z5s dJ D B p a).2 ht with d |d;have m:=V' dJ w z d;have s:=zaw dJ i k d;by_cases v:t<tm₀.length;rw[h.yes k q t b a v m,c.yes k q t b a v s];rw[YQ (by rw[h.len];omega),YQ (by rw[c.len];omega)];have n:¬ L k:=fun x=>y (qkf dJ w k i x d)
 have s:=zaw dJ k i d;rw[h.no k q t b a n,c.no k q t b a af]
omit dJ in
def Mv{p q:Nat}(o:p<=q)(n:q<=rs.length)(a : ∀(e:Nat)(r:eX),p<=e->e<q->rs[e]? = some r->r.act=false): lE rs Y' p=lE rs Y' q:=by
  induction q with
  | zero => have : p = 0 := by omega
            rw[this]
  |succ q f=>
    obtain h |h:=Zd q p;have:p=q+1:=by omega
    rw[this];rw[f h af fun e r c m d=> a e r c af d];have s:rs[q]? = some rs[q]:=by simp[show q<rs.length by omega]
    have⟨_,g2,b,_⟩:=kA.all q _ s;rw[b,g2.quiet (a q _ h (zN _) s)];simp[lE,s]
omit kA dJ in
def zca{i p:Nat}(h:∃(e:Nat)(q:eX),i<e/\e<p/\rs[e]? = some q/\q.act=true):∃(e:Nat)(q:eX),i<e/\e<p/\rs[e]? = some q/\q.act=true/\∀(a:Nat)(b:eX),e<a->a<p->rs[a]? = some b->b.act=false:=by
 have⟨e,q,g1,g2,c,d⟩:=h;have:∀(n e:Nat)(q:eX),p-e=n->i<e->e<p->rs[e]? = some q->q.act=true->∃(e:Nat)(q:eX),i<e/\e<p/\rs[e]? = some q/\q.act=true/\∀(a:Nat)(b:eX),e<a->a<p->rs[a]? = some b->b.act=false:=by
  intro n;induction n using Nat.strongRecOn with
  |_ n f=>intro e q y g1 g2 c d;by_cases s:∃(a:Nat)(b:eX),e<a/\a<p/\rs[a]? = some b/\b.act=true;have⟨a,b,t,m,o,w⟩:=s;exact f (p-a) af a b rfl af m o w;exact⟨e,q,g1,g2,c,d,fun a b t m o=>by cases v:b.act with |false=>rfl |true=>exact absurd ⟨a,b,t,m,o,v⟩ s⟩
 exact this _ e q rfl g1 g2 c d
omit kA dJ in
def z7t{i p:Nat}(h:∃(e:Nat)(q:eX),p<=e/\e<i/\rs[e]? = some q/\q.act=true):∃(e:Nat)(q:eX),p<=e/\e<i/\rs[e]? = some q/\q.act=true/\∀(a:Nat)(b:eX),p<=a->a<e->rs[a]? = some b->b.act=false:=by
 have⟨e,q,g1,g2,c,d⟩:=h;have:∀(e:Nat)(q:eX),p<=e->e<i->rs[e]? = some q->q.act=true->∃(e:Nat)(q:eX),p<=e/\e<i/\rs[e]? = some q/\q.act=true/\∀(a:Nat)(b:eX),p<=a->a<e->rs[a]? = some b->b.act=false:=by
  intro e;induction e using Nat.strongRecOn with
  |_ e f=>intro q g1 g2 c d;by_cases s:∃(a:Nat)(b:eX),p<=a/\a<e/\rs[a]? = some b/\b.act=true;have⟨a,b,m,n,o,v⟩:=s;exact f a n b m af o v;exact⟨e,q,g1,g2,c,d,fun a b m n o=>by cases t:b.act with |false=>rfl |true=>exact absurd ⟨a,b,m,n,o,t⟩ s⟩
 exact this e q g1 g2 c d
variable(l:ChU T j.toList rs)
include g l
def zbi{ro:V Nat}{x0:Cx}{m0:Nm}{w0:Ep}{E:Exit->Act->Ep->Prop}{df:X Deferred}(hQ:∀y tv m w a,y.Y=Y'->St F y tm' tv m w a->bS m0 x0.s w0 m y.s w->Ke n0 x0 y->n0<=y.Y.nx->a.defers=df->E .normal a w):
  ∀(z:Nat)(v:Jg FK)(a:Act)(w:Ep)(m:Nm)(p:Nat)(tm:X U)(tv:X Value)(x:Cx),v.size=j.size->v.toList.count false=z->
   eA j.toList (fun k=>v.getD k false=true)->(∀(e:Nat)(r:eX),rs[e]? = some r->r.act=false->r.mv=true->v.getD e false=true)->Q2 tm₀ rs (fun k=>v.getD k false=true) tm->p<=rs.length-> (∀(e:Nat)(r:eX),rs[e]? = some r->r.act=true->(v.getD e false=true↔e<p))->x.Y=lE rs Y' p->St F x tm tv m w a->bS m0 x0.s w0 m x.s w->Ke n0 x0 x->n0<=x.Y.nx->a.defers=df->
   wpAnyIn (CP ro) 0 P .any j E z v a w:=by
 have hn:rs.length=j.size:=by simpa using kA.len
 intro z;induction z with
 |zero=>
  intro v a w m p tm tv x fN ji iL hqa tL hp rE g8 J aX jE jL nG;have c5:∀k,k<j.size->v.getD k false=true:=fun k D=>by
   have tS:k<v.size:=by omega
   have:v[k]≠false:=fun hf=>by
    have hm:false∈v.toList:=by rw[<-hf];simp
    have:=count_pos_iff.2 hm;omega
   have this':v[k]=true:=by simpa using this
   simp[Array.getD,tS,this']
  have Gm:Region.ready .any j v=[]:=by
   apply filter_eq_nil_iff.2;intro k D;simp[qcF]at D;have tS:k<v.size:=by omega
   have:=c5 k D;simp[Array.getD,tS]at this;simp[Array.getD,tS,this]
  refine⟨Gm,?_⟩;have es:lE rs Y' p=Y':=by rw[Mv j kA hp (zF _) fun e r C h2 h3=>by rcases H:r.act with _|_;rfl;have:=(rE e r h3 H).1 (c5 e af);omega];simp[lE]
  have et:tm=tm':=by
   have C:=OW j kA dJ rs.length<|zF _;have Q:yO rs tm' rs.length=tm':=by simp[yO]
   rw[Q]at C;refine z0e (L:=fun k=>k<rs.length) ⟨tL.len,fun k r d g1 g2 N g4=>tL.yes k r d g1 g2 N<|c5 k af,fun k r d g1 g2 N=>?_,tL.other⟩ C;have:=(zG.1 g1).1;exact absurd this N
  rw[et]at J;exact hQ x tv m w a (g8.trans es) J aX jE jL nG
 |succ z ih=>
  intro v a w m p tm tv x fN ji iL hqa tL hp rE g8 J aX jE jL nG;have mem_ready:∀i,i∈Region.ready .any j v↔i<j.size/\v.getD i true=false/\∃o,j[i]? = some o/\∀e∈o.after.toList,Region.binds .any e=true->v.getD e.on false=true:=by
   intro i;unfold Region.ready;rw[T!,qcF];refine and_congr_right fun hi=>?_;have ho:j[i]? = some j[i]:=by simp[hi]
   simp only[ho,zM,jf,eR,zp,qbF,nH];refine and_congr_right fun _=>?_;constructor;intro h;refine⟨_,rfl,fun e he H=>?_⟩;rcases h e (by simpa using he)with C |C
   simp[H]at C;exact C;rintro⟨o,ho',h⟩ e he;cases ho';rcases H:Region.binds .any e with _|_;exact .inl rfl;exact .inr (h e (by simpa using he) H)
  refine⟨fun Gv=>?_,fun i hi=>?_⟩;exfalso;have tU:∃i,i<j.size/\v.getD i true=false:=by
   have jK:0<v.toList.count false:=by omega
   obtain⟨i,hi,e⟩:=mem_iff_getElem.1<|count_pos_iff.1 jK;simp at hi;refine⟨i,by omega,?_⟩;simp[Array.getElem_toList]at e;simp[Array.getD,hi,e]
  have hmin:∀n,n<j.size->v.getD n true=false->False:=by
   intro n;induction n using Nat.strongRecOn with
   |_ n ihn=>
    intro hn1 P_;have:n∈Region.ready .any j v:=(mem_ready n).2 ⟨hn1,P_,j[n],by simp[hn1],fun e he H=>by
     have aG:=B? dJ (i:=n) (o:=j[n]) (by simp[hn1]) e he H;have tS:e.on<v.size:=by omega
     cases hv:v[e.on]with|true=>simp[Array.getD,tS,hv]|false=>exact(ihn e.on aG af<|by simp[Array.getD,tS,hv]).elim⟩
    rw[Gv]at this;cases this
  have⟨i,C,h2⟩:=tU;exact hmin i C h2;have⟨hilt,kZ,o,ho,Hu⟩:=(mem_ready i).1 hi;have SB:i<v.size:=by omega
  have a?:¬ v.getD i false=true:=by simp[Array.getD,SB]at kZ ⊢;exact kZ
  have DN:j.toList[i]? = some o:=by simpa using ho
  have⟨r,hr,fO⟩:=Aw j kA DN;subst fO;have DL:∀q,j.toList[i]? = some q->∀e∈q.after.toList,Region.binds .any e=true->v.getD e.on false=true:=fun q O=>by rw[DN]at O;cases O;exact Hu
  have Ha:=qwa j kA dJ iL tL hr a? DL;have⟨_,xx,uI,_⟩:=kA.all i r hr;have Qp:lE rs Y' i=r.s:=by simp[lE,hr]
  have DS:∀k,((v.setIfInBounds i true).getD k false=true)↔(v.getD k false=true\/k=i):=fun k=>by by_cases D:k=i;subst D;simp[Array.getD,SB];by_cases AO:k<v.size;simp[Array.getD,AO,D,WV D];simp[Array.getD,AO,D]
  have LK:eA j.toList (fun k=>(v.setIfInBounds i true).getD k false=true):=fun k q D O e he H=>by refine(DS e.on).2 (.inl ?_);rcases(DS k).1 D with D |rfl;exact iL k q D O e he H;exact DL q O e he H
  have wg:∀(e:Nat)(r:eX),rs[e]? = some r->r.act=false->r.mv=true->(v.setIfInBounds i true).getD e false=true:=fun e q C h2 h3=>(DS e).2 (.inl<|hqa e q C h2 h3);have KZ:Q2 tm₀ rs (fun k=>(v.setIfInBounds i true).getD k false=true) (eS tm r.o.dst r.u):=by have:=que j kA dJ tL hr;exact⟨this.len,fun k q d a b c hL=>this.yes k q d a b c<|(DS k).1 hL,fun k q d a b hL=>this.no k q d a b fun x=>hL<|(DS k).2 x,this.other⟩
  have XB:(v.setIfInBounds i true).toList.count false=z:=by
   have hv:v[i]=false:=by simpa[Array.getD,SB]using kZ
   rw[Array.toList_setIfInBounds,count_set<|by simpa using SB];have wZ:Array.count false v=z+1:=by simpa using ji
   simp[hv];omega
  have⟨DM,zo⟩:=Es Ha;have M:r.act=false->∀y G A t B,y.Y=lE rs Y' p->St F y (eS tm r.o.dst r.u) G A t B->bS m0 x0.s w0 A y.s t->Ke n0 x0 y->n0<=y.Y.nx->B.defers=df->wpAnyIn (CP ro) 0 P .any j E z (v.setIfInBounds i true) B t:=fun D y G A t B C h2 h3 h4 h5 h6=>by refine ih _ _ _ A p _ G y (by simpa using fN) XB LK wg KZ hp (fun e q O Gq=>?_) C h2 h3 h4 h5 h6;rw[DS];by_cases R:e=i;subst R;rw[hr]at O;cases O;rw[D]at Gq;cases Gq;simp only[R,or_false];exact rE e q O Gq
  have Z:r.act=true->lE rs Y' p=r.s/\∀y G A t B,y.Y=r.s'->St F y (eS tm r.o.dst r.u) G A t B->bS m0 x0.s w0 A y.s t->Ke n0 x0 y->n0<=y.Y.nx->B.defers=df->wpAnyIn (CP ro) 0 P .any j E z (v.setIfInBounds i true) B t:=fun D=>by
   have cY:p<=i:=by obtain h |h:=Zd i p;exact absurd ((rE i r hr D).2 h) a?;exact h
   have hil':i<rs.length:=(zG.1 hr).1;have LN:∀(e:Nat)(q:eX),p<=e->e<i->rs[e]? = some q->q.act=false:=fun e q C h2 h3=>by rcases H:q.act with _|_;rfl;have:=V' dJ iL DL<|l.p8 i e r q hr h3 D H h2;have:=(rE e q h3 H).1 this;omega
   refine⟨(Mv j kA cY af LN).trans Qp,fun y G A t B C h2 h3 h4 h5 h6=>?_⟩;refine ih _ _ _ A (i+1) _ G y (by simpa using fN) XB LK wg KZ af (fun e q O Gq=>?_) (C.trans uI.symm) h2 h3 h4 h5 h6;rw[DS];by_cases R:e=i;subst R;simp;simp only[R,or_false];constructor;intro jr;have:=(rE e q O Gq).1 jr;omega;intro aG;exact V' dJ iL DL (l.p8 i e r q hr O D Gq af)
  unfold wpOpIn;simp[ho];rw[qoe (J.act m<|aP.refl _ _) j r.o];obtain⟨S,hu,I,_⟩|⟨S,uJ,hqu⟩|⟨S,I,f,args,XC,kK⟩|⟨S,I,_,X8⟩|⟨I,hm,_⟩|⟨S,I,u1,s1,d,uJ,hd,LI,Hk,AI⟩:=xx;rw[JO J.e<|zo.trans S];simp[gj,MF];rw[hu]at M;exact⟨fun _ _=>trivial,M I x _ m w _ g8 (J.skip r.o.dst) aX jE jL<|(JR _ _ _).trans nG⟩;rw[JO J.e<|zo.trans S];simp[It];cases I:r.act with
  |true=>
   have⟨nO,o3⟩:=Z I;have AF:bJ T x.Y tm r.o.op=some (r.u,r.s'):=by rw[g8,nO,LJ DM];exact uJ
   exact A4 (UU AF) (J.op g r.o AF fun y G A t B Q bL dD fE oF iT=>o3 y G A t B Q bL (aX.trans dD) (jE.trans<|fE.le jL) af<|iT.trans nG)
  |false=>
   have Qo:=hqu I;have eV:bJ T (lE rs Y' p) r.tm r.o.op=some (r.u,lE rs Y' p):=by
    obtain hip |hip:=Zd i p;by_cases tU:∃(e:Nat)(q:eX),i<e/\e<p/\rs[e]? = some q/\q.act=true;have⟨e,q,g1,g2,N,g5,g6⟩:=zca tU;have es:lE rs Y' (e+1)=lE rs Y' p:=Mv j kA af hp fun e' q' k1 k2 k3=>g6 e' q' af k2 k3
    have eq':lE rs Y' (e+1)=q.s':=(kA.all e q N).2.2.1;rw[<-es,eq'];obtain W |W |W:=l.hi i e r q hr N I S uJ g5 g1;have jr:v.getD e false=true:=(rE e q N g5).2 g2;exact absurd (qkf dJ iL e i jr W) a?;rw[W,uJ,Qo];exact W;have es:lE rs Y' i=lE rs Y' p:=Mv j kA af hp fun e q k1 k2 k3=>by
     obtain h |h:=Zd i e;rcases H:q.act with _|_;rfl;exact absurd ⟨e,q,h,k2,k3,H⟩ tU;have:e=i:=by omega
     subst this;rw[hr]at k3;cases k3;exact I
    rw[<-es,Qp,uJ,Qo];by_cases tU:∃(e:Nat)(q:eX),p<=e/\e<i/\rs[e]? = some q/\q.act=true;have⟨e,q,g1,g2,N,g5,g6⟩:=z7t tU;have es:lE rs Y' p=lE rs Y' e:=Mv j kA g1 (by have:=(zG.1 N).1;omega) fun e' q' k1 k2 k3=>g6 e' q' k1 k2 k3;have eq':lE rs Y' e=q.s:=by simp[lE,N]
    rw[es,eq'];obtain W |W |W:=l.lo i e r q hr N I S uJ g5 g2;have jr:=V' dJ iL DL W;have:=(rE e q N g5).1 jr;omega;rw[W,uJ,Qo];exact W;have es:lE rs Y' p=lE rs Y' i:=Mv j kA hip (by have:=(zG.1 hr).1;omega) fun e q k1 k2 k3=>by rcases H:q.act with _|_;rfl;exact absurd ⟨e,q,k1,k2,k3,H⟩ tU
    rw[es,Qp,uJ,Qo]
   have AF:bJ T x.Y tm r.o.op=some (r.u,lE rs Y' p):=by rw[g8,LJ DM];exact eV
   exact A4 (UU AF) (J.op g r.o AF fun y G A t B Q bL dD fE oF iT=>M I y G A t B Q bL (aX.trans dD) (jE.trans<|fE.le jL) af<|iT.trans nG)
  rw[JO J.e<|zo.trans S];simp[It];have⟨nO,o3⟩:=Z I;have hev':b7 P f args x.Y (fun u Y=>u=r.u/\Y=r.s'):=by rw[g8,nO];exact kK
  refine A4 (I'<|(Tt DM).trans XC)<|J.call g r.o ((Tt DM).trans XC) hev' fun y u G A t B hR bL dD fE oF iT=>?_;obtain⟨rfl,hR2⟩:=hR;exact o3 y G A t B hR2 bL (aX.trans dD) (jE.trans<|fE.le jL) af<|iT.trans nG;rw[JO J.e<|zo.trans S];simp[It];exact A4 (X8.congr DM).nd (J.free g r.o (X8.congr DM) fun y G A t B Q bL dD fE oF iT=>M I y G A t B (Q.trans g8) bL (aX.trans dD) (jE.trans<|fE.le jL) af<|iT.trans nG);exact absurd (hqa i r hr I hm) a?;rw[JO J.e<|zo.trans S];simp[It];have⟨nO,o3⟩:=Z I;have AF:bJ T x.Y tm r.o.op=some (u1,s1):=by rw[g8,nO,LJ DM];exact uJ
  have aT:tm.length=r.tm.length:=by
   have C:=(OW j kA dJ i<|ep (zG.1 hr).1).len;have Q:yO rs tm' i=r.tm:=by simp[yO,hr]
   rw[Q]at C;rw[tL.len,C]
  exact A4 (UU AF) (J.sS g r.o AF hd (by rw[aT];exact LI) Hk AI fun y G A t B Q bL dD fE oF iT=>o3 y G A t B Q bL (aX.trans dD) (jE.trans<|fE.le jL) af<|iT.trans nG)
end
end Go.Vx
namespace Go.Vx
open Go Go.Rx
def RD(P:Ua)(T:Tb)(c:X Oper):X Oper->X U->Sg->(X eX->X U->Sg->Prop)->Prop
 |[],a,Y,K=>K [] a Y|o::r,a,Y,K=>(cE c a o=some true/\∃u,bJ T Y a o.op=some (u,Y)/\RD P T c r (eS a o.dst u) Y (fun e=>K (⟨a,o,u,false,false,Y,Y⟩::e)))\/ (cE c a o=some true/\∃u b,bJ T Y a o.op=some (u,b)/\RD P T c r (eS a o.dst u) b (fun e=>K (⟨a,o,u,true,true,Y,b⟩::e)))\/ (cE c a o=some true/\∃f args u,kQ T a o.op=some (f,args)/\b7 P f args Y (fun h b=>h=u/\b=Y)/\RD P T c r (eS a o.dst u) Y (fun e=>K (⟨a,o,u,true,false,Y,Y⟩::e)))\/ (cE c a o=some true/\∃f args u b,kQ T a o.op=some (f,args)/\b7 P f args Y (fun h j=>h=u/\j=b)/\RD P T c r (eS a o.dst u) b (fun e=>K (⟨a,o,u,true,true,Y,b⟩::e)))\/ (cE c a o=some false/\RD P T c r (eS a o.dst<|.a7 []) Y (fun e=>K (⟨a,o,.a7 [],false,false,Y,Y⟩::e)))\/ (cE c a o=some true/\∃u,uY P T a o.op u/\RD P T c r (eS a o.dst u) Y (fun e=>K (⟨a,o,u,false,false,Y,Y⟩::e)))\/ (cE c a o=some true/\∃i g d u b,bJ T Y a o.op=some (i,g)/\o.dst=some d/\d<a.length/\Gh g.nx [i] g [u] b/\g.nx<=b.nx/\RD P T c r (eS a o.dst u) b (fun e=>K (⟨a,o,u,true,true,Y,b⟩::e)))
def UC{P:Ua}{T:Tb}{p:X Oper}:∀(a:X Oper)(m:X U)(Y:Sg)(K:X eX->X U->Sg->Prop),RD P T p a m Y K->
  ∃c b l,K c b l/\c.length=a.length/\lE c l 0=Y/\yO c b 0=m/\
   ∀(i:Nat)(r:eX),c[i]? = some r->a[i]? = some r.o/\Good P T p r/\lE c l (i+1)=r.s'/\yO c b (i+1)=eS r.tm r.o.dst r.u/\(r.mv=false->r.s'=r.s)/\(r.mv=true->r.act=true)
 |[],m,Y,K,h=>⟨[],m,Y,h,rfl,rfl,rfl,fun i r I=>by simp at I⟩|o::a,m,Y,K,h=>by
  have step:∀(u:U)(q mv:FK)(j:Sg),RD P T p a (eS m o.dst u) j (fun c=>K (⟨m,o,u,q,mv,Y,j⟩::c))->Good P T p ⟨m,o,u,q,mv,Y,j⟩->(mv=false->j=Y)->(mv=true->q=true)->
    ∃c b l,K c b l/\c.length=(o::a).length/\lE c l 0=Y/\yO c b 0=m/\
     ∀(i:Nat)(r:eX),c[i]? = some r->(o::a)[i]? = some r.o/\Good P T p r/\lE c l (i+1)=r.s'/\yO c b (i+1)=eS r.tm r.o.dst r.u/\(r.mv=false->r.s'=r.s)/\(r.mv=true->r.act=true):=by
   intro u q mv j h A e k;have⟨c,b,l,g1,g2,t,v,w⟩:=UC a _ _ _ h;refine⟨_,b,l,g1,by simp[g2],rfl,rfl,fun i r I=>?_⟩;cases i with
   |zero=>simp at I;subst I;refine⟨rfl,A,?_,?_,e,k⟩;simp[lE,zH];exact t;simp[yO,zH];exact v|succ i=>simp[zH]at I;have⟨B,C,D,E,F⟩:=w i r I;refine⟨by simpa using B,C,?_,?_,F⟩;simp[lE,zH];exact D;simp[yO,zH];exact E
  simp only[RD]at h;obtain⟨g,u,e,k⟩|⟨g,u,j,e,k⟩|⟨g,f,args,u,e,k,n⟩|⟨g,f,args,u,j,e,k,n⟩|⟨g,e⟩|⟨g,u,e,n⟩|⟨g,H,G,d,u,j,e,k,n,x,y,z⟩:=h;exact step u false false Y k (.inr<|.inl ⟨g,e,fun _=>rfl⟩) (fun _=>rfl) aZ;exact step u true true j k (.inr<|.inl ⟨g,e,by simp⟩) aZ aZ;exact step u true false Y n (.inr<|.inr<|.inl ⟨g,rfl,f,args,e,k⟩) (fun _=>rfl) aZ;exact step u true true j n (.inr<|.inr<|.inl ⟨g,rfl,f,args,e,k⟩) aZ aZ;exact step _ false false Y e (.inl ⟨g,rfl,rfl,rfl⟩) (fun _=>rfl) aZ;exact step u false false Y n (.inr<|.inr<|.inr<|.inl ⟨g,rfl,rfl,e⟩) (fun _=>rfl) aZ;exact step u true true j z (.inr<|.inr<|.inr<|.inr<|.inr ⟨g,rfl,H,G,d,e,k,n,x,y⟩) aZ aZ
section
variable{C:PG}{T:Tb}(b:jW C.prog T){n0:Nat}{Q:Exit->X U->Sg->Prop}{tm:X U}{Y:Sg}
include b
def I6.drawn{id:Nat}{c:Jg Oper}(B:Co c.toList=true){rs:X eX}{f:X U}{s:Sg}(v:p? C.prog T c.toList tm Y rs f s)(z:ChU T c.toList rs)(p:∀(i:Nat)(r:eX),rs[i]? = some r->r.mv=true->r.act=true)(I:Q .normal f s):I6 C n0 (.region id c true) tm Y Q:=fun K F x L m w a N u st P J ro O=>by
 apply wpIn_region_any b.mixed;have l:∀k,(Array.replicate c.size false).getD k false=false:=fun k=>by by_cases j:k<c.size<;>simp[Array.getD,j]
 have S:=bS.draw (w.drawn+1) st.fits;refine zbi (ro:=ro) b c v B z (n0:=n0) (F:=F) (x0:=x) (m0:=m) (w0:=w) (df:=a.defers) (fun y D A R M n o g E G H=>⟨y,f,D,A,n ▸ I,o,g,E,G,by rw[H];exact J.kB st.fits g⟩) c.size (Array.replicate c.size false) a _ m 0 tm L x aZ aZ ?_ (fun e r n o g=>by have:=p e r n g;rw[o]at this;cases this) ?_ (qq _) ?_ ?_ ?_ ?_ (Ke.refl _ _) (u ▸ K) rfl;intro k q j;rw[l]at j;cases j;have:=qpr (rs:=rs) (tm₀:=tm);exact⟨this.len,fun k r d _ _ _ t=>(by rw[l]at t;cases t),fun k r d g1 g2 _=>this.no k r d g1 g2 fun x=>x,this.other⟩;intro e r _ _;rw[l];simp;rw[v.s0];exact u;exact⟨st.h,st.fr,st.e,(bS.draw _ st.fits).fits,st.act⟩;exact bS.draw _ st.fits
end
section
variable{K:X U->Sg->Prop}{Q:Exit->X U->Sg->Prop}{tm:X U}{Y:Sg}{i j:Nat}
def ze(h:Q .normal tm Y):wK i Q (.exit i) tm Y:=by simp[wK,It];exact h
def zd(a:¬ j=i)(h:Q (.exit j) tm Y):wK i Q (.exit j) tm Y:=by simp[wK,a,MF];exact h
end
variable{C:PG}{T:Tb}{d:X Oper}{r:X Oper}{o:Oper}{tm:X U}{Y:Sg}{f:FuncId}{args:X U}
def RU.call{K:X U->Sg->Prop}{R:U->Sg->Prop}(c:cE d tm o=some true)(b:kQ T tm o.op=some (f,args))(e:b7 C.prog f args Y R)
  (h:∀u a,R u a->RU C T d r (eS tm o.dst u) a K):RU C T d (o::r) tm Y K:=.inr (.inl ⟨c,f,args,R,b,e,h⟩)
def I6.sU{k:Nat}{Q:Exit->X U->Sg->Prop}{c:Code}(a:Nat->X U->Sg->Prop)(n:Nat)(g:a n tm Y)
  (round:∀n tm Y,a n tm Y->I6 C k c tm Y (BP (fun l p=>∃j i b,j<n/\a j i b/\k<=b.nx/\Gh k l p i b) Q)):I6 C k (.loop c) tm Y Q:=by
 refine I6.loop a n g fun n tm Y w=>?_;apply I6.after (round n tm Y w);intro e m q x h;cases e with
 |normal=>have⟨j,i,b,s,t,u,v⟩:=h;exact⟨i,b,u,v,j,s,t⟩
 |_=>exact⟨m,q,x,Gh.refl _ _ _,h⟩
def Gh.to{e n1:Nat}{b:X U}{c:Sg}(a:X FK)(m:JE a tm=b)(l:(⟨Vx.cut n1 Y.h,n1⟩:Sg)=c)(g:e<=n1)(i:n1<=Y.nx)(j:aH n1 b)(k:HA n1 c.h):Gh e tm Y b c:=by subst m;subst l;exact(Gh.J9 e a tm Y).trans (Gh.cut g i j k)
def tF{a:Type}{n:Nat}(f:a->X U)(h:∀x,aH n<|f x)(l:X a):lU n (l.map f):=by rw[Ni];intro c b;obtain⟨x,_,rfl⟩:=mem_map.1 b;exact h x
def RF(P:Ua)(T:Tb)(d a:X Oper)(tm:X U)(Y:Sg)(e:X (FK×FK))(K:X (FK×FK)->X U->Sg->Prop):Prop :=
 RD P T d a tm Y (fun g b c=>K (e++g.map fun r=>(r.act,r.mv)) b c)
def RF.eq(P:Ua)(T:Tb)(d:X Oper){f g:X eX->X U->Sg->Prop}(h:f=g){a:X Oper}(b:RD P T d a tm Y f):RD P T d a tm Y g:=h ▸ b
def z7u{K:X (FK×FK)->X U->Sg->Prop}(e:X (FK×FK))(r:eX)(a b:FK)(g:r.act=a)(h:r.mv=b):
  (fun(c:X eX) (tm:X U) (Y:Sg)=>K (e++[(a,b)]++c.map fun r=>(r.act,r.mv)) tm Y)=(fun c=>(fun(c:X eX) tm Y=>K (e++c.map fun r=>(r.act,r.mv)) tm Y) (r::c)):=by subst g;subst h;funext c tm Y;simp
variable{u:U}
def RF.call{P:Ua}{a:X (FK×FK)}{K:X (FK×FK)->X U->Sg->Prop}(e:cE d tm o=some true)(c:kQ T tm o.op=some (f,args))(g:b7 P f args Y (fun i b=>i=u/\b=Y))
  (h:RF P T d r (eS tm o.dst u) Y (a++[(true,false)]) K):RF P T d (o::r) tm Y a K:=by simp only[RF,RD];exact .inr (.inr<|.inl ⟨e,f,args,u,c,g,RF.eq P T d (z7u a _ true false rfl rfl) h⟩)
def RU.tG{K:X U->Sg->Prop}(i:cE d tm o=some true)(g:kQ T tm o.op=some (f,args))(j:b7 C.prog f args Y (fun b a=>b=u/\a=Y))
  (h:RU C T d r (eS tm o.dst u) Y K):RU C T d (o::r) tm Y K:=RU.call i g j (fun b a ⟨c,e⟩=>by subst c;subst e;exact h)
def b7.uA{P:Ua}(h:b7 P f args ⟨[],0⟩ (fun a _=>a=u/\aW 0 a))(c:aH 0 args)(Y:Sg):b7 P f args Y (fun a b=>a=u/\b=Y):=b7.pure h c Y
end Go.Vx
