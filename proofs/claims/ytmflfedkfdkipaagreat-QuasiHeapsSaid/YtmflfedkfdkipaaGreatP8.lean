import GoSem.ClaimChange
import Derived.Test.YtmflfedkfdkipaaGreatP7
set_option linter.all false
open List Go.IntKind
open Nat hiding beq_eq
namespace Go.Vx
open Go Go.Rx
mutual
def dc(W:Jb):U->I->Prop
 |.bool b,v=>v=.bool b|.int k n,v=>v=.int k n
 |.str l,v=>v=.string ⟨⟨l⟩⟩|.O t l,v=>t=false/\((l=[]/\(v=.slice none 0 0\/∃b off p,v=.slice (some ⟨b,off,some p⟩) 0 0))\/∃b off c,v=.slice (some ⟨b,off,none⟩) l.length c/\c<cP/\l.length<=c/\
   (l=[]\/∃d e fr f,W.heap[b]? = some (.cells d e fr)/\OO W f l (d.toList.drop off)))
 |.agg l,v=>∃a,v=.agg ⟨a⟩/\o3 W l a/\l.length=a.length/\I5 l=true|_,_=>False
def o3(W:Jb):X U->X I->Prop
 |[],_=>True|u::b,a=>match a with
  |[]=>False|v::a=>dc W u v/\o3 W b a
def OO(W:Jb)(a:Nat):X (X U)->X I->Prop
 |[],_=>True|c::d,b=>c.length=a/\I5 c=true/\o3 W c b/\OO W a d (b.drop a)
end
def cx(s:S):Cx:=⟨fun _=>none,⟨[],0⟩,s⟩
def Ru(s:S):Prop:=∀i b,lk s.h i=some b->iK b=false
structure Grow(m:Nm)(s:S)(m':Nm)(s':S):Prop where
 agree:aJ s.nx m m'
 nx:s.nx<=s'.nx
 rows:∀i b,lk s.h i=some b->lk s'.h i=some b
def Grow.refl(m:Nm)(s:S):Grow m s m s:=⟨aJ.refl _ _,zF _,fun _ _ h=>h⟩
def Grow.trans{m d a:Nm}{s e c:S}(h:Grow m s d e)(h':Grow d e a c):Grow m s a c:=⟨h.agree.trans h'.agree h.nx,eb h.nx h'.nx,fun i b f=>h'.rows i b<|h.rows i b f⟩
variable{m:Nm}{D:Nm}{s:S}{s':S}
def Grow.mo(h:Grow m s D s'):Mo 0 (cx s) (cx s'):=⟨fun k b=>ag,fun i row e a=>h.rows i _ a⟩
def Grow.rel(h:Grow m s D s'){u:U}{v:I}(a:aD (cx s) u v):aD (cx s') u v:=h.mo.ke u v (aD.L5 _ _ a) a
def Grow.tB(h:Grow m s D s'){l:X U}{b:X I}(a:aZ (cx s) l b):aZ (cx s') l b:=h.mo.ke.E a.L5 a
def qx0(m:Nm)(n:Nat):nB m n [] []:=fun _ _=>by simp[aF]
def z35{n:Nat}{v a:I}{d c:X I}(h:iC m n v a)(e:nB m n d c):nB m n (v::d) (a::c):=fun D b=>by simp[aF,h D b,e D b]
def qki{x:Cx}{e:Nat}:∀{l:X (X U)}{a:X I},aZ x l.flatten a->(∀c∈l,c.length=e/\I5 c=true)->iD x e l a
 |[],a,h,b=>by simp[iD]
 |c::l,a,h,b=>by obtain⟨j,k⟩:=b c ca;simp only[iD];rw[Wx]at h;refine⟨j,k,?_,qki (by have:=h.drop e;rwa [zi ag,Gt ag,eY]at this) fun d n=>b d<|by simp[n]⟩;rw[JC];intro i u f;have g:i<c.length:=(zG.1 f).1;exact h.get (by rw[kl g];exact f)
def qx3{W:Jb}{e:Nat}:∀{l:X (X U)}{b:X I},OO W e l b->∀c∈l,c.length=e/\I5 c=true
 |[],b,h=>by simp
 |d::l,b,h=>fun c a=>by simp only[OO]at h;obtain rfl |a:=zI.1 a;exact⟨h.1,h.2.1⟩;exact qx3 h.2.2.2 c a
def Got(W:Jb)(m:Nm)(s:S)(u:U)(a:I):Prop:=∃D s' v,Grow m s D s'/\fW D s' W/\Ru s'/\(∀i b,lk s'.h i=some b->i<s'.nx)/\iC D s'.nx v a/\aD (cx s') u v
def yk(W:Jb)(m:Nm)(s:S)(d:X U)(c:X I):Prop:=∃D s' a,Grow m s D s'/\fW D s' W/\Ru s'/\(∀i b,lk s'.h i=some b->i<s'.nx)/\nB D s'.nx a c/\aZ (cx s') d a
mutual
def ZY{W:Jb}:(u:U)->(r:I)->dc W u r->∀m s,fW m s W->Ru s->(∀i b,lk s.h i=some b->i<s.nx)->Got W m s u r
 |.bool b,r,h,m,s,g,f,o=>by simp only[dc]at h;subst h;exact⟨m,s,.bool b,Grow.refl _ _,g,f,o,PT fun _=>by simp[G0],by simp[aD]⟩
 |.int k n,r,h,m,s,g,f,o=>by simp only[dc]at h;subst h;exact⟨m,s,.int k n,Grow.refl _ _,g,f,o,PT fun _=>by simp[G0],by simp[aD]⟩
 |.str l,r,h,m,s,g,f,o=>by simp only[dc]at h;subst h;exact⟨m,s,_,Grow.refl _ _,g,f,o,PT fun _=>by simp[G0],by simp[aD]⟩
 |.agg l,r,h,m,s,g,f,o=>by simp only[dc]at h;obtain⟨Y,rfl,P,Q,R⟩:=h;obtain⟨D,s',A,g1,g2,B,y,C,E⟩:=uz l Y P m s g f o;rw[Q,xe]at C;exact⟨D,s',.agg ⟨A⟩,g1,g2,B,y,fun a w=>by simp[G0,C a w],by simp only[aD];exact⟨A,rfl,E.1,E.2,R⟩⟩
 |.O t l,r,h,m,s,g,f,o=>by
  simp only[dc]at h;obtain⟨rfl,h⟩:=h;obtain⟨rfl,rfl |⟨b,off,p,rfl⟩⟩|⟨b,off,c,rfl,F,Z,h⟩:=h;exact⟨m,s,.slice none 0 0,Grow.refl _ _,g,f,o,PT fun _=>by simp[G0],by simp[aD]⟩;refine⟨m.set s.nx b off p,⟨s.h,s.nx+1⟩,.chan<|some s.nx,⟨Nm.K2 _ _ _ _ _,Wt _,fun _ _ h=>h⟩,(bJ.ghost g b off p).fits,f,fun i b x=>Xm<|o i b x,fun D w=>?_,by simp[aD]⟩;obtain⟨q1,q2,q3⟩:=w s.nx<|zN _;simp[G0,q1,q2,q3,Nm.set];by_cases H:l=[];subst H;refine⟨m.set s.nx b off 0,⟨s.h,s.nx+1⟩,.slice (some ⟨s.nx,0,none⟩) 0 c,⟨Nm.K2 _ _ _ _ _,Wt _,fun _ _ h=>h⟩,(bJ.ghost g b off 0).fits,f,fun i b x=>Xm<|o i b x,fun D w=>?_,?_⟩;obtain⟨q1,q2,_⟩:=w s.nx<|zN _;simp[G0,q1,q2,Nm.set,cM,F];simp only[aD];exact .inr ⟨s.nx,0,c,rfl,by simp,.inl trivial⟩;obtain h |⟨O,e,fr,sz,X,J⟩:=h;exact absurd h H;obtain⟨D,s',A,g1,g2,B,y,C,E⟩:=z3b l _ J m s g f o;have N:=qx3 J;have K:∀a,aJ (s'.nx+1) (D.set s'.nx b off 0) a->aJ s'.nx D a:=fun a w=>(Nm.K2 D s'.nx b off 0).trans w (Wt _)
  have L:∀a,aJ (s'.nx+1) (D.set s'.nx b off 0) a->a.I4 s'.nx=b/\a.sh s'.nx=off:=fun a w=>by obtain⟨q1,q2,_⟩:=w s'.nx<|zN _;simp[Nm.set]at q1 q2;exact⟨q1,q2⟩
  refine⟨D.set s'.nx b off 0,⟨(s'.nx,.inl (A,0,1))::s'.h,s'.nx+1⟩,.slice (some ⟨s'.nx,0,none⟩) l.length c,g1.trans ⟨Nm.K2 _ _ _ _ _,Wt _,fun i b x=>?_⟩,fun a w=>⟨fun i d q=>?_,fun i j d d' q M mY G=>?_,fun i d q=>?_⟩,fun i d q=>?_,fun i d q=>?_,fun a w=>?_,?_⟩;have:=y i b x;simp[mD,show s'.nx≠i by omega,x];simp only[mD]at q;split at q;rename_i e;subst e;cases q;obtain⟨q1,q2⟩:=L a w;refine⟨O,e,fr,by rw[q1];exact X,fun k v V=>?_,fun n f=>absurd f ca⟩;have:=congrArg (fun z=>z[k]?)<|C a<|K a w;simp only[lM,vz,V,zM,l8,na]at this;split at this;rw[q2];simpa using this.symm;cases this;exact(g2 a<|K a w).ok i d q;simp only[mD]at q M;split at q;cases q;simp[iK]at G;rw[B i d q]at G;cases G;simp only[mD]at q;split at q;show i<s'.nx+1;omega;exact Xm<|y i d q;simp only[mD]at q;split at q;cases q;rfl;exact B i d q;simp only[mD]at q;split at q;show i<s'.nx+1;omega;exact Xm<|y i d q;obtain⟨q1,q2⟩:=L a w;simp[G0,q1,q2,cM,F];have T:Grow D s' (D.set s'.nx b off 0) ⟨(s'.nx,.inl (A,0,1))::s'.h,s'.nx+1⟩:=⟨Nm.K2 _ _ _ _ _,Wt _,fun i b x=>by have:=y i b x;simp[mD,show s'.nx≠i by omega,x]⟩;simp only[aD];exact .inr ⟨s'.nx,0,c,rfl,by simp,.inr ⟨A,0,sz,by simp[cx,mD],qki (T.tB E) N,.inl ⟨F,Z⟩⟩⟩
 |.L2,r,h,m,s,g,f,o=>by simp[dc]at h
 |.b8,r,h,m,s,g,f,o=>by simp[dc]at h
 |.ptr _ _ _,r,h,m,s,g,f,o=>by simp[dc]at h
 |.b4 _,r,h,m,s,g,f,o=>by simp[dc]at h
 |.J,r,h,m,s,g,f,o=>by simp[dc]at h
 |.sl _ _ _ _,r,h,m,s,g,f,o=>by simp[dc]at h
 |.vl _ _ _ _,r,h,m,s,g,f,o=>by simp[dc]at h
 |.e9,r,h,m,s,g,f,o=>by simp[dc]at h
 |.map _,r,h,m,s,g,f,o=>by simp[dc]at h
 |.fn _ _ _,r,h,m,s,g,f,o=>by simp[dc]at h
 |.j7,r,h,m,s,g,f,o=>by simp[dc]at h
 |.j9,r,h,m,s,g,f,o=>by simp[dc]at h
 |.a7 _,r,h,m,s,g,f,o=>by simp[dc]at h
def uz{W:Jb}:(a:X U)->(c:X I)->o3 W a c->∀m s,fW m s W->Ru s->(∀i b,lk s.h i=some b->i<s.nx)->yk W m s a (c.take a.length)
 |[],c,h,m,s,d,e,f=>⟨m,s,[],Grow.refl _ _,d,e,f,by simpa using qx0 m s.nx,aZ.nil _⟩|u::a,[],h,m,s,d,e,f=>by simp[o3]at h
 |u::a,l::c,h,m,s,d,e,f=>by simp only[o3]at h;obtain⟨D,s',v,g1,g2,n,o,p,q⟩:=ZY u l h.1 m s d e f;obtain⟨j,k,z,g,r,t,w,x,y⟩:=uz a c h.2 D s' g2 n o;exact⟨j,k,v::z,g1.trans g,r,t,w,by simpa using z35 (p.ext g.agree g.nx) x,aZ.cons (g.rel q) y⟩
def z3b{W:Jb}{d:Nat}:(l:X (X U))->(a:X I)->OO W d l a->∀m s,fW m s W->Ru s->(∀i b,lk s.h i=some b->i<s.nx)->yk W m s l.flatten (a.take<|l.length*d)
 |[],a,h,m,s,g,j,k=>⟨m,s,[],Grow.refl _ _,g,j,k,by simpa using qx0 m s.nx,aZ.nil _⟩|c::l,a,h,m,s,g,j,k=>by
  simp only[OO]at h;obtain⟨D,s',v,g1,g2,p,q,r,t⟩:=uz c a h.2.2.1 m s g j k;obtain⟨n,o,A,f,u,w,x,y,z⟩:=z3b l _ h.2.2.2 D s' g2 p q;refine⟨n,o,v++A,g1.trans f,u,w,x,?_,by rw[Wx];exact(f.tB t).append z⟩;have e:a.take ((c::l).length*d)=a.take c.length++(a.drop d).take (l.length*d):=by rw[zO,eF,zj,Ha,h.1]
  rw[e];exact(r.ext f.agree f.nx).append y
end
def kD{P:Ib}{f:FuncId}{d:X U}{W:Jb}{args:X I}(h:aT P f d ⟨[],0⟩ (fun u _=>u=.bool true))(A:o3 W d args)(z:d.length=args.length):
  Calls P f args.toArray W fun e o=>e=.returned (.bool true)/\RowKit.Below W.heap.size W o:=by have w:fW ⟨id,id,id⟩ ⟨[],0⟩ W:=fun D _=>⟨fun i b a=>by simp[lk]at a,fun i j b c a=>by simp[lk]at a,fun i b a=>by simp[lk]at a⟩;obtain⟨m,s,C,g1,g2,q,r,l,t⟩:=uz d args A ⟨id,id,id⟩ ⟨[],0⟩ w (fun i b a=>by simp[lk]at a) (fun i b a=>by simp[lk]at a);rw[z,xe]at l;refine(h (fun _ _=>False) (cx s) C m W args rfl ⟨fun k b a=>by simp[cx,gt]at a,fun k H b F i a=>by simp[cx,gt]at a,r⟩ (fun _ _ O=>O.elim) t g2 l).mono ?_;rintro e o ⟨y,E,u,v,G,rfl,rfl,p,B,_,_,g,_,_⟩;simp only[aD]at g;subst g;have:=B.at;simp only[G0]at this;exact⟨by rw[<-this],p.below fun b ⟨i,c,x,n,_⟩=>by rw[q i c x]at n;cases n⟩
def L1(P:Ib):Nat->TypeId->X U->Prop
 |0,_,_=>False|n+1,t,a=>match P.underlying t with
  |some .bool=>∃b,a=[.bool b]|some (.int k)=>∃i,a=[.int k i]/\(Lit.int k i).wf=true
  |some .string=>∃s,a=[.str s]/\s.length<=maxLen|some (.slice e)=>∃l,a=[.O false l]/\l.length<=maxLen/\∀c∈l,L1 P n e c
  |some (.struct d)=>a.length=P.cellsOf t/\∀f∈d.toList,L1 P n f.type ((a.drop f.offset).take (P.cellsOf f.type))|some (.array k e)=>a.length=P.cellsOf t/\∀i,i<k->L1 P n e ((a.drop<|i*P.cellsOf e).take (P.cellsOf e))
  |_=>False
end Go.Vx
namespace Go.Vx
open Go Go.Rx
variable{tm:X U}{tm':X U}
def U!{l:X Qo}(h:∀t∈tmpsOf l,tm[t]? = tm'[t]?){x:Qo}(a:x∈l):c5 tm x=c5 tm' x:=by cases x with|tmp t=>simp only[c5,jT];exact h t (qy9 a)|_=>rfl
def Vi{l:X Qo}(h:∀x∈l,c5 tm x=c5 tm' x):pI tm l=pI tm' l:=by induction l with|nil=>rfl|cons x l b=>simp only[pI];rw[h x ca,b fun y a=>h y<|by simp[a]]
def qk3{l:X (Nat×Qo)}(h:∀x∈l.map (·.2),c5 tm x=c5 tm' x):B6 tm l=B6 tm' l:=by induction l with|nil=>rfl|cons x l b=>obtain⟨i,x⟩:=x;simp only[B6];rw[h x ca,b fun y a=>h y (by simp only[zQ,zI];exact .inr a)]
def qk2{x:A Qo}(h:∀y,x=some y->c5 tm y=c5 tm' y):CD tm x=CD tm' x:=by obtain _|y:=x;rfl;simp only[CD];rw[h y rfl]
section
variable{T:Tb}{tm tm':X U}{Y:Sg}{op:Op}
def qul(h:∀x∈op.operands.toList,c5 tm x=c5 tm' x):iQ T Y tm op=iQ T Y tm' op:=by
 cases op<;>simp only[Op.operands]at h<;>try rfl
 case move x=>simp only[iQ];exact h x ca
 case assign x=>simp only[iQ];exact h x ca
 case pick c a b=>simp only[iQ];rw[h c ca,h a ca,h b ca]
 case build t ps=>simp only[iQ];rw[qk3<|by simpa using h]
 case nilCheck x=>simp only[iQ];rw[h x ca]
 case binOp o t x y ty=>simp only[iQ];rw[h x ca,h y ca]
 case unOp o t x=>simp only[iQ];rw[h x ca]
 case convert a b x=>simp only[iQ];rw[h x ca]
 case makeFunc f a b=>simp only[iQ];rw[Vi fun x d=>h x (by simp at d ⊢;exact .inl d),Vi fun x d=>h x (by simp at d ⊢;exact .inr d)]
 case slice t x lo hi g=>
  cases g with|some _=>rfl|none=>
  simp only[iQ];rw[h x ca,qk2 (x:=lo) fun y e=>h y (by subst e;simp),qk2 (x:=hi) fun y e=>h y (by subst e;simp)]
 case fieldAddr t x f=>simp only[iQ];rw[h x ca]
 case field t x f=>simp only[iQ];rw[h x ca]
 case indexAddr t x i=>simp only[iQ];rw[h x ca,h i ca]
 case index t x i=>simp only[iQ];rw[h x ca,h i ca]
 case extract x i=>simp only[iQ];rw[h x ca]
 case call c=>simp only[iQ];rw[Vi (l:=c.args.toList) fun x d=>h x (by simp[Call.operands]at d ⊢;exact .inr d)]
def qup(h:∀x∈op.operands.toList,c5 tm x=c5 tm' x):qR T Y tm op=qR T Y tm' op:=by
 cases op<;>simp only[Op.operands]at h<;>try rfl
 case load t x=>simp only[qR];rw[h x ca]
 case lookup t x k ok=>simp only[qR];rw[h x ca,h k ca]
def qy0(h:∀x∈op.operands.toList,c5 tm x=c5 tm' x):qO T Y tm op=qO T Y tm' op:=by
 cases op<;>simp only[Op.operands]at h<;>try rfl
 case box t x=>simp only[qO];rw[h x ca]
 case store t x y=>simp only[qO];rw[h x ca,h y ca]
 case buildSlice t n ps=>simp only[qO];rw[qk3<|by simpa using h]
 case makeSlice t x y=>simp only[qO];rw[h x ca,h y ca]
 case makeMap t r=>cases r<;>rfl
 case mapUpdate t x y z=>simp only[qO];rw[h x ca,h y ca,h z ca]
 case call c=>simp only[qO];rw[Vi (l:=c.args.toList) fun x a=>h x (by simp[Call.operands]at a ⊢;exact .inr a)]
def Rf(h:∀x∈op.operands.toList,c5 tm x=c5 tm' x):kM T tm op=kM T tm' op:=by
 cases op<;>simp only[Op.operands]at h<;>try rfl
 case call c=>
  simp only[kM];rw[Vi (l:=c.args.toList) fun x a=>h x (by simp[Call.operands]at a ⊢;exact .inr a)];cases b:c.callee with
  |value f=>simp only[];rw[h f<|by simp[Call.operands,b]]|_=>rfl
def gw(h:∀x∈op.operands.toList,c5 tm x=c5 tm' x):bH T Y tm op=bH T Y tm' op:=by unfold bH;rw[qul h,qup h,qy0 h]
end
def Dq{b:X Oper}{o:Oper}(h:∀t∈P9 b o,tm[t]? = tm'[t]?):(∀x∈o.op.operands.toList,c5 tm x=c5 tm' x)/\c9 b tm o=c9 b tm' o:=by
 unfold P9 at h;unfold c9;cases e:o.guard with
 |none=>simp only[e]at h;exact⟨fun x a=>U! h a,rfl⟩|some g=>
  obtain⟨j,f⟩:=g;simp only[e]at h;cases c:CC b j with
  |none=>simp only[c]at h;exact⟨fun x a=>U! h a,by simp only[c]⟩|some d=>simp only[c]at h;refine⟨fun x a=>U! (fun t i=>h t<|by simp[i]) a,?_⟩;simp only[c,jT];rw[h d ca]
variable{K:Nat}{k:Nat}
def td(h:Nat.beq k K=false)(b:B)(a st off n:Nat):fz K b a (.vl k st off n)=.vl k st off n:=by simp[fz,h]
def tf(h:Nat.beq k K=false)(b:B)(a off n c:Nat):fz K b a (.sl k off n c)=.sl k off n c:=by simp[fz,h]
def tg(h:Nat.beq k K=false)(b:B)(a st off:Nat):fz K b a (.ptr k st off)=.ptr k st off:=by simp[fz,h]
def WN(K:Nat)(l:X U)(e:TypeId)(a n:Nat)(h:n*a<=l.length):fz K (.row l e) a (.sl K 0 n n)=.O false (bR a n l):=by
 have:Nat.beq n n=true:=by simp[beq_eq]
 simp[fz,beq_eq,h]
def xg(K:Nat)(l:X U)(e:TypeId)(a:Nat):fz K (.row l e) a (.ptr K 0 0)=.b4 l:=by simp[fz,beq_eq]
def J9(K:Nat)(b:B)(a:Nat)(k:IntKind)(n:Int):fz K b a (.int k n)=.int k n:=by simp[fz]
def JA(K:Nat)(b:B)(a:Nat)(x:Rl):fz K b a (.bool x)=.bool x:=by simp[fz]
def U2(K:Nat)(b:B)(a:Nat)(x:X RX):fz K b a (.str x)=.str x:=by simp[fz]
def U7(K:Nat)(b:B)(a:Nat):fz K b a .J=.J:=by simp[fz]
def Az(K:Nat)(b:B)(a:Nat):fz K b a .b8=.b8:=by simp[fz]
def Ba(K:Nat)(b:B)(a:Nat):fz K b a .e9=.e9:=by simp[fz]
def Bb(K:Nat)(b:B)(a:Nat):fz K b a .j7=.j7:=by simp[fz]
def U8(K:Nat)(b:B)(a:Nat):fz K b a .L2=.L2:=by simp[fz]
def J8(K:Nat)(b:B)(a:Nat)(t:Rl)(l:X (X U)):fz K b a (.O t l)=.O t l:=by simp[fz]
def Ar(K:Nat)(b:B)(a:Nat)(k:Nat):fz K b a (.map k)=.map k:=by simp[fz]
def U3(K:Nat)(b:B)(a:Nat)(l:X U):fz K b a (.agg l)=.agg (k9 K b a l):=by simp[fz]
def TZ(K:Nat)(b:B)(a:Nat)(l:X U):fz K b a (.a7 l)=.a7 (k9 K b a l):=by simp[fz]
def TQ(K:Nat)(b:B)(d:Nat)(f:Fn)(a c:X U):fz K b d (.fn f a c)=.fn f (k9 K b d a) (k9 K b d c):=by simp[fz]
def JB(K:Nat)(b:B)(a:Nat):k9 K b a []=[]:=by simp[k9]
def F9(K:Nat)(b:B)(a:Nat)(u:U)(l:X U):k9 K b a (u::l)=fz K b a u::k9 K b a l:=by simp[k9]
mutual
def N6{K:Nat}(b:B)(d:Nat):(u:U)->aS K u->fz K b d u=u
 |.sl k _ _ _,h=>tf (by simp only[aS]at h;simp[beq_eq];omega) _ _ _ _ _|.vl k _ _ _,h=>td (by simp only[aS]at h;simp[beq_eq];omega) _ _ _ _ _
 |.ptr k _ _,h=>tg (by simp only[aS]at h;simp[beq_eq];omega) _ _ _ _|.agg l,h=>by simp only[aS]at h;rw[U3,sA b d l h]
 |.a7 l,h=>by simp only[aS]at h;rw[TZ,sA b d l h]
 |.fn f a c,h=>by simp only[aS]at h;rw[TQ,sA b d a h.1,sA b d c h.2]
 |.int _ _,_=>J9 _ _ _ _ _|.bool _,_=>JA _ _ _ _
 |.str _,_=>U2 _ _ _ _|.J,_=>U7 _ _ _
 |.b8,_=>Az _ _ _|.e9,_=>Ba _ _ _
 |.j7,_=>Bb _ _ _|.j9,_=>by simp[fz]
 |.L2,_=>U8 _ _ _|.O _ _,_=>J8 _ _ _ _ _
 |.b4 _,_=>by simp[fz]
 |.map _,_=>Ar _ _ _ _
def sA{K:Nat}(b:B)(a:Nat):(l:X U)->aG K l->k9 K b a l=l
 |[],_=>JB _ _ _|u::l,h=>by simp only[aG]at h;rw[F9,N6 b a u h.1,sA b a l h.2]
end
variable{x:Cx}
def o8.lU{b:B}(h:o8 x k b):cV x.Y.nx b:=by
 cases b with
 |row l e=>obtain⟨_,_,_,_,_,a⟩:=h;exact a.L5
 |vec l e n st=>obtain⟨_,_,d⟩:=h;obtain⟨rfl,_⟩|⟨_,_,_,_,a⟩:=d;simp[cV,aG];exact a.L5
 |map m i=>obtain⟨_,c,_,_,a⟩:=h;intro e f;obtain⟨j,g,rfl⟩:=HO f;obtain⟨v,_,q2,q3,_⟩:=a.2 j _<|hF g;exact⟨aD.L5 _ _ q2,aD.L5 _ _ q3⟩
variable{n0:Nat}{Y:Sg}
def Gh.same(j:X (Nat×B))(g:∀k,gt j k=gt Y.h k):Gh n0 tm Y tm ⟨j,Y.nx⟩:=fun F x D z d q r=>by
 subst z;have o:Mo x.Y.nx x ⟨x.Z,⟨j,x.Y.nx⟩,x.s⟩:=⟨fun k _ f=>⟨f,fun b a=>⟨b,by rw[<-g];exact a,zF _,fun _=>⟨rfl,fun l e C st h=>⟨l,h⟩⟩⟩⟩,fun _ _ _ h=>h⟩;refine⟨⟨x.Z,⟨j,x.Y.nx⟩,x.s⟩,fun m w q=>bJ.refl q,rfl,⟨fun k b a=>?_,fun k A b t i a n=>?_,d.bd⟩,fun i b O=>?_,o.ke.E r.L5 r,fun u v a d=>o.ke u v (aD.L5 u v d) d⟩;have n:gt x.Y.h k=some b:=by rw[<-g];exact a
 obtain⟨p,f⟩:=d.ok k b n;exact⟨p,f.mono o rfl fun _ _ _ h=>h⟩;exact d.inj k A b t i (by rw[<-g];exact a) (by rw[<-g];exact n);obtain⟨p,f⟩:=q i b O;exact⟨p,fun k c y=>f k c (by rw[<-g];exact y)⟩
variable{T:Tb}{op:Op}
def qzg{q:FuncId×X U}(h:kM T tm op=some q):bH T Y tm op=none:=by
 cases op with
 |call c=>
  simp only[kM]at h;cases a:c.callee with
  |value f=>simp[bH,iQ,qR,qO,a]|_=>simp[a]at h
 |_=>simp[kM]at h
def Gh.tD{n1:Nat}(p:n0<=n1)(y:n1<=Y.nx)(d:aG n1 tm)(t:∀k b,gt (Vx.cut n1 Y.h) k=some b->cV n1 b):Gh n0 tm Y tm ⟨Vx.cut n1 Y.h,n1⟩:=fun F x A u j f r=>by
 subst u;have g:Mo n1 x ⟨x.Z,⟨Vx.cut n1 x.Y.h,n1⟩,x.s⟩:=by refine⟨fun k n _=>⟨n,fun b d=>?_⟩,fun _ _ _ h=>h⟩;simp only[Li,n,It]at d;exact⟨b,d,zF _,fun _=>⟨rfl,fun l e z st h=>⟨l,h⟩⟩⟩
 have sub:∀{k b},gt (Vx.cut n1 x.Y.h) k=some b->k<n1/\gt x.Y.h k=some b:=fun{k b} a=>by simp only[Li]at a;split at a;exact⟨by assumption,a⟩;cases a
 refine⟨⟨x.Z,⟨Vx.cut n1 x.Y.h,n1⟩,x.s⟩,fun m w f=>bJ.refl f,rfl,⟨fun k b a=>?_,fun k v b o i g1 g2=>j.inj k v b o i (sub g1).2 (sub g2).2,j.bd⟩,fun i b O=>?_,g.ke.E d r,g.ke.le p⟩;exact⟨(sub a).1,(j.ok k b (sub a).2).2.k_ (t k b a) g rfl fun _ _ _ h=>h⟩;exact⟨(f i b O).1,fun k c q=>(f i b O).2 k c (sub q).2⟩
def qnw{k:Nat}(b:Nat):∀(n:Nat)(l:X U),aG k l->lL k (bR b n l)
 |0,l,_=>by simp[bR,lL]
 |n+1,l,h=>by simp only[bR,lL];exact⟨(DS k _).2 fun u a=>(DS k _).1 h u (zn a),qnw b n _<|(DS k _).2 fun u a=>(DS k _).1 h u (TJ a)⟩
def uY(P:Ib)(T:Tb)(tm:X U)(op:Op)(u:U):Prop :=
 (∃f args,kM T tm op=some (f,args)/\∀s,aT P f args s fun b Y=>b=u/\Y=s)\/ (∃n c a e,(∀Y,bH T Y tm op=some (.sl Y.nx 0 n n,cc Y<|.row a e))/\n*c<=a.length/\(∀m,(∀x∈op.operands.toList,∀b,c5 tm x=some b->aS m b)->aG m a)/\u=.O false (bR c n a))
def Gh.quiet{n c:Nat}{a:X U}{e:TypeId}{d:A Tmp}(y:n0<=Y.nx)(f:aG Y.nx tm)(j:∀k b,gt Y.h k=some b->k<Y.nx/\cV Y.nx b)(z:n*c<=a.length)(C:aG Y.nx a):Gh n0 (eH tm d<|.sl Y.nx 0 n n) (cc Y<|.row a e) (eH tm d<|.O false<|bR c n a) Y:=by
 have r:gt (cc Y<|.row a e).h Y.nx=some (.row a e):=by simp[cc,aV]
 have w:k9 Y.nx (.row a e) c (eH tm d<|.sl Y.nx 0 n n)=eH tm d (.O false<|bR c n a):=by
  obtain _|t:=d;simp only[eH];exact sA _ _ _ f;simp only[eH];have key:∀(l:X U)(t:Nat),aG Y.nx l->k9 Y.nx (.row a e) c (l.set t<|.sl Y.nx 0 n n)=l.set t (.O false<|bR c n a):=by
   intro l;induction l with
   |nil=>intro t _;simp[k9]|cons u l m=>
    intro t h;simp only[aG]at h;cases t with
    |zero=>simp only[Jh,F9,sA _ _ l h.2,WN Y.nx a e c n z]|succ t=>simp only[OA,F9,N6 _ _ u h.1,m t h.2]
  exact key tm t f
 have p:aG Y.nx (eH tm d<|.O false<|bR c n a):=by
  obtain _|t:=d;simpa only[eH]using f;simp only[eH];have key:∀(l:X U)(t:Nat),aG Y.nx l->aG Y.nx (l.set t<|.O false<|bR c n a):=by
   intro l;induction l with
   |nil=>intro t _;simp[aG]|cons u l m=>
    intro t h;simp only[aG]at h;cases t with
    |zero=>simp only[Jh,aG];exact⟨by simp only[aS];exact qnw c n a C,h.2⟩|succ t=>simp only[OA,aG];exact⟨h.1,m t h.2⟩
  exact key tm t f
 have o:∀k,gt (Vx.cut Y.nx<|dA Y.nx (.row a e) c (cc Y<|.row a e).h) k=gt Y.h k:=fun k=>by
  rw[Li];by_cases i:k<Y.nx;rw[kh i,J7,iy ag];have:gt (cc Y<|.row a e).h k=gt Y.h k:=by simp only[cc,aV];rw[iy ag]
  rw[this];rcases g:gt Y.h k with _|b;rfl;have f:=(j k b g).2;simp only[zM,zA];cases b with
  |row l e=>simp only[fv];rw[sA _ _ _ f]|vec l e s st=>simp only[fv];rw[sA _ _ _ f]
  |map v D=>
   simp only[fv];congr 1;have:∀q∈v,({ q with val:=fz Y.nx (.row a e) c q.val }:_)=q:=fun q B=>by rw[N6 _ _ _ (f q B).2]
   exact(Wu this).trans (Fh _)
  rw[iy i];rcases g:gt Y.h k with _|b;rfl;exact absurd (j k b g).1 i
 refine(Gh.freeze (n0:=n0) c r ca).trans ?_;rw[w];refine(Gh.tD (n0:=n0) (n1:=Y.nx) y (by simp[cc]) p ?_).trans ?_;intro k b g;rw[o]at g;exact(j k b g).2;exact Gh.same (Y:=⟨Vx.cut Y.nx<|dA Y.nx (.row a e) c (cc Y<|.row a e).h,Y.nx⟩) Y.h fun k=>(o k).symm
variable{P:Ib}{u:U}
def uY.yR(h:uY P T tm op u)(Y:Sg):bH T Y tm op≠some (u,Y):=fun a=>by
 obtain⟨f,args,h,_⟩|⟨n,c,b,e,h,_⟩:=h;rw[qzg h]at a;cases a;rw[h Y]at a;simp only[zA,zB]at a;have:=congrArg Sg.nx a.2;simp only[cc]at this;omega
def uY.congr(h:∀x∈op.operands.toList,c5 tm x=c5 tm' x)(j:uY P T tm' op u):uY P T tm op u:=by obtain⟨f,args,a,b⟩|⟨n,o,d,e,a,b,g,i⟩:=j;exact .inl ⟨f,args,(Rf h).trans a,b⟩;exact .inr ⟨n,o,d,e,fun Y=>(gw h).trans (a Y),b,fun m hm=>g m fun x c p l=>hm x c p<|(h x c).trans l,i⟩
def uY.nd(h:uY P T tm op u):∀c,op≠.defer c:=by obtain⟨f,args,a,_⟩|⟨n,d,b,e,a,_⟩:=h;exact Tp a;exact P8 (a ⟨[],0⟩)
variable{F:Nat->m9->Prop}
def St.free(D:j0 P T){tv:X I}{m:Nm}{w:Jb}{a:Act}(st:St F x tm tv m w a)(o:Oper)(h:uY P T tm o.op u){next:Act->Jb->Prop}{Q:Exit->Act->Jb->Prop}
  (G:∀y l g c i,y.Y=x.Y->St F y (eH tm o.dst u) l g c i->bJ m x.s w g y.s c->Ke x.Y.nx x y->x.Y.nx<=y.Y.nx->i.defers=a.defers->next i c):o.wp P a w next Q:=by
 obtain⟨f,args,A,B⟩|⟨n,sz,cs,e,A,B,S,rfl⟩:=h;refine st.call D o A (B x.Y) fun y J l g c i V j q r H t=>?_
 obtain⟨rfl,C⟩:=V;exact G y l g c i C j q r H t;refine st.op D o (A x.Y) fun y l g c i L j q r H t=>?_;obtain⟨z,g1,g2,M,N,O,R⟩:=Gh.quiet (n0:=x.Y.nx) (Y:=x.Y) (d:=o.dst) (e:=e) (zF _) st.e.L5 (fun k b E=>⟨(st.h.ok k b E).1,(st.h.ok k b E).2.lU⟩) B (S _ fun xo _ J Z=>by obtain⟨v,_,W⟩:=iJ st.e Z;exact aD.L5 J v W) F y l L j.h j.fr j.e;have p:=g1 g c j.fits;exact G z l g c i g2 ⟨M,N,O,p.fits,j.act.ext p.agree p.nx⟩ (q.trans p) (r.trans R) (by rw[g2];exact zF _) t
def St.tE(hT:j0 P T){tv:X I}{m:Nm}{w:Jb}{a:Act}(st:St F x tm tv m w a)(o:Oper){O:U}{A H:Sg}{d:Nat}(sK:bH T x.Y tm o.op=some (O,A))(hd:o.dst=some d)(R:d<tm.length)
  (hg:Gh A.nx [O] A [u] H) (hn:A.nx<=H.nx) {next:Act->Jb->Prop} {Q:Exit->Act->Jb->Prop}
  (C:∀y p g b j,y.Y=H->St F y (eH tm o.dst u) p g b j->bJ m x.s w g y.s b->Ke x.Y.nx x y->x.Y.nx<=y.Y.nx->j.defers=a.defers->next j b):o.wp P a w next Q:=by
 refine st.op hT o sK fun y p g b j r l S V N W=>?_;have c:=l.e;rw[hd]at c C;simp only[eH]at c C;obtain⟨v1,G,D⟩:=c.get (qe<|by simpa using R);obtain⟨z,g1,g2,Z,g4,g5,L⟩:=hg F y [v1] r l.h l.fr<|aZ.cons D<|aZ.nil y;have q:=g1 g b l.fits;obtain⟨v1',_,n,E,_⟩:=g5.inv;cases n;have B:aZ z (tm.set d u) p:=by refine⟨(JC z _ _).2 fun i J f=>?_,by have:=c.2;simpa using this⟩;by_cases t:d=i;subst t;rw[qe<|by simpa using R]at f;cases f;exact⟨v1,G,E⟩;rw[Ty t]at f;obtain⟨v,hv,hr⟩:=c.get (i:=i) (u:=J) (by rw[Ty t];exact f);refine⟨v,hv,L J v ?_ hr⟩;have M:=(DS y.Y.nx _).1 c.L5 J (by rw[mem_iff_getElem?];exact⟨i,by rw[Ty t];exact f⟩);rw[r]at M;exact M
 exact C z p g b j g2 ⟨Z,g4,B,q.fits,l.act.ext q.agree q.nx⟩ (S.trans q) (V.trans<|L.le (by rw[<-r];exact N)) (by rw[g2];rw[r]at N;omega) W
structure eK where
 tm:X U
 o:Oper
 u:U
 act:Rl
 mv:Rl
 s:Sg
 s':Sg
def Good(P:Ib)(T:Tb)(a:X Oper)(r:eK):Prop :=
 (c9 a r.tm r.o=some false/\r.u=.a7 []/\r.act=false/\r.s'=r.s)\/ (c9 a r.tm r.o=some true/\bH T r.s r.tm r.o.op=some (r.u,r.s')/\(r.act=false->r.s'=r.s))\/ (c9 a r.tm r.o=some true/\r.act=true/\∃f args,kM T r.tm r.o.op=some (f,args)/\aT P f args r.s (fun u Y=>u=r.u/\Y=r.s'))\/ (c9 a r.tm r.o=some true/\r.act=false/\r.s'=r.s/\uY P T r.tm r.o.op r.u)\/ (r.act=false/\r.mv=true/\r.s'=r.s)\/ (c9 a r.tm r.o=some true/\r.act=true/\∃c b d,bH T r.s r.tm r.o.op=some (c,b)/\r.o.dst=some d/\d<r.tm.length/\Gh b.nx [c] b [r.u] r.s'/\b.nx<=r.s'.nx)
variable{r:eK}
def Good.quiet{b:X Oper}(h:Good P T b r)(a:r.act=false):r.s'=r.s:=by obtain⟨_,_,_,h⟩|⟨_,_,h⟩|⟨_,h,_⟩|⟨_,_,h,_⟩|⟨_,_,h⟩|⟨_,h,_⟩:=h;exact h;exact h a;rw[a]at h;cases h;exact h;exact h;rw[a]at h;cases h
def kJ(b:X eK)(a:Sg)(p:Nat):Sg:=match b[p]? with
 |some r=>r.s|none=>a
def xS(a:X eK)(tm':X U)(p:Nat):X U:=match a[p]? with
 |some r=>r.tm|none=>tm'
structure p_(P:Ib)(T:Tb)(aB:X Oper)(tm₀:X U)(HY:Sg)(rs:X eK)(tm':X U)(Y':Sg):Prop where
 len:rs.length=aB.length
 s0:kJ rs Y' 0=HY
 t0:xS rs tm' 0=tm₀
 all:∀(i:Nat)(r:eK),rs[i]? = some r->aB[i]? = some r.o/\Good P T aB r/\kJ rs Y' (i+1)=r.s'/\xS rs tm' (i+1)=eH r.tm r.o.dst r.u
structure QJ(T:Tb)(aB:X Oper)(rs:X eK):Prop where
 r6:∀(i k:Nat)(r q:eK),rs[i]? = some r->rs[k]? = some q->r.act=true->q.act=true->k<i->ki aB i k
 lo:∀(i k:Nat)(r q:eK),rs[i]? = some r->rs[k]? = some q->r.act=false->c9 aB r.tm r.o=some true->bH T r.s r.tm r.o.op=some (r.u,r.s')->q.act=true->k<i->ki aB i k\/q.s=r.s\/bH T q.s r.tm r.o.op=some (r.u,q.s)
 hi:∀(i k:Nat)(r q:eK),rs[i]? = some r->rs[k]? = some q->r.act=false->c9 aB r.tm r.o=some true->bH T r.s r.tm r.o.op=some (r.u,r.s')->q.act=true->i<k->ki aB k i\/q.s'=r.s\/bH T q.s' r.tm r.o.op=some (r.u,q.s')
structure P7(tm₀:X U)(rs:X eK)(L:Nat->Prop)(tm:X U):Prop where
 len:tm.length=tm₀.length
 yes:∀(k:Nat)(r:eK)(d:Nat),rs[k]? = some r->r.o.dst=some d->d<tm₀.length->L k->tm[d]? = some r.u
 no:∀(k:Nat)(r:eK)(d:Nat),rs[k]? = some r->r.o.dst=some d->¬ L k->tm[d]? = tm₀[d]?
 other:∀(t:Nat),(∀(k:Nat)(r:eK),rs[k]? = some r->r.o.dst≠some t)->tm[t]? = tm₀[t]?
section
variable{P:Ib}{T:Tb}(g:j0 P T)(j:Ie Oper){tm₀:X U}{l:Sg}{rs:X eK}{tm':X U}{Y':Sg}
 (jM:p_ P T j.toList tm₀ l rs tm' Y') (cQ:Bq j.toList=true)
include jM cQ
omit cQ in
def ZW{i:Nat}{o:Oper}(a:j.toList[i]? = some o):∃r,rs[i]? = some r/\r.o=o:=by
 have c:i<rs.length:=by rw[jM.len];exact(zG.1 a).1
 have b:rs[i]? = some rs[i]:=by simp[c]
 refine⟨_,b,?_⟩;have:=(jM.all i _ b).1;rw[a]at this;exact(Option.some.inj this).symm
variable{i:Nat}
def qvk{q:eK}(e:rs[i]? = some r)(c:rs[k]? = some q)(a:i≠k){d:Tmp}(b:q.o.dst=some d):r.o.dst≠some d :=
 (z3p cQ (jM.all i r e).1 (jM.all k q c).1 a b).1
def qsz{L:Nat->Prop}(h:P7 tm₀ rs L tm)(n:rs[i]? = some r):P7 tm₀ rs (fun k=>L k\/k=i) (eH tm r.o.dst r.u):=by
 cases m:r.o.dst with
 |none=>simp only[eH];refine⟨h.len,fun k q d c b s a=>?_,fun k q d c b a=>h.no k q d c b fun x=>a<|.inl x,h.other⟩;obtain a |rfl:=a;exact h.yes k q d c b s a;rw[n]at c;cases c;rw[m]at b;cases b
 |some v=>
  simp only[eH];refine⟨by simp[h.len],fun k q d c b s a=>?_,fun k q d c b a=>?_,fun t w=>?_⟩;by_cases p:k=i;subst p;rw[n]at c;cases c;rw[m]at b;cases b;rw[qe (by rw[h.len];exact s)];have f:v≠d:=fun e=>by have:=qvk j jM cQ n c (fun x=>p x.symm) b;exact this (by rw[m,e])
  rw[Ty f];obtain a |a:=a;exact h.yes k q d c b s a;exact absurd a p;have p:k≠i:=fun e=>a (.inr e)
  have f:v≠d:=fun e=>by have:=qvk j jM cQ n c (fun x=>p x.symm) b;exact this (by rw[m,e])
  rw[Ty f];exact h.no k q d c b fun x=>a<|.inl x;have f:v≠t:=fun e=>w i r n (by rw[m,e]);rw[Ty f];exact h.other t w
omit jM cQ in
def qoo:P7 tm₀ rs (fun _=>False) tm₀:=⟨rfl,fun _ _ _ _ _ _ h=>h.elim,fun _ _ _ _ _ _=>rfl,fun _ _=>rfl⟩
def A!(p:Nat)(v:p<=rs.length):P7 tm₀ rs (fun k=>k<p) (xS rs tm' p):=by
 induction p with
 |zero=>rw[jM.t0];have:=qoo (rs:=rs) (tm₀:=tm₀);refine⟨this.len,fun k r d _ _ _ f=>ag,fun k r d n o _=>this.no k r d n o fun x=>x,this.other⟩|succ p t=>
  have e:rs[p]? = some rs[p]:=by simp[show p<rs.length by omega]
  have s:=(jM.all p _ e).2.2.2;have h:=t ag;have m:xS rs tm' p=rs[p].tm:=by simp[xS,e]
  rw[m]at h;have:=qsz j jM cQ h e;rw[s];refine⟨this.len,fun k q d a b c f=>this.yes k q d a b c ag,fun k q d a b f=>this.no k q d a b ag,this.other⟩
omit jM cQ in
def qyl{L:Nat->Prop}{a b:X U}(f:P7 tm₀ rs L a)(h:P7 tm₀ rs L b):a=b:=by
 apply me;intro t;by_cases m:∀(k:Nat)(r:eK),rs[k]? = some r->r.o.dst≠some t;rw[f.other t m,h.other t m];have:∃(k:Nat)(r:eK),rs[k]? = some r/\r.o.dst=some t:=by apply zg;intro p;exact m fun k r d c=>p ⟨k,r,d,c⟩
 obtain⟨k,r,d,c⟩:=this;by_cases e:L k;by_cases n:t<tm₀.length;rw[f.yes k r t d c n e,h.yes k r t d c n e];rw[Xi (by rw[f.len];omega),Xi (by rw[h.len];omega)];rw[f.no k r t d c e,h.no k r t d c e]
def quv{L:Nat->Prop}(y:ep j.toList L)(h:P7 tm₀ rs L tm)(f:rs[i]? = some r)(z:¬ L i)
  (A:∀o,j.toList[i]? = some o->∀e∈o.after.toList,Region.binds .any e=true->L e.on):∀t∈P9 j.toList r.o,tm[t]? = r.tm[t]?:=by
 have G:i<rs.length:=(zG.1 f).1;have c:=A! j jM cQ i<|eW G;have B:xS rs tm' i=r.tm:=by simp[xS,f]
 rw[B]at c;intro(t:Nat) ht;by_cases m:∀(k:Nat)(q:eK),rs[k]? = some q->q.o.dst≠some t;rw[h.other t m,c.other t m];have:∃(k:Nat)(q:eK),rs[k]? = some q/\q.o.dst=some t:=by apply zg;intro D;exact m fun k r f a=>D ⟨k,r,f,a⟩
 obtain⟨k,q,b,a⟩:=this;have E:=(jM.all i r f).1;have C:=(jM.all k q b).1;by_cases s:i=k;subst s;rw[h.no i q t b a z,c.no i q t b a ag];rcases(z3p cQ E C s a).2 ht with d |d;have n:=gu cQ y A d;have v:=z8v cQ i k d;by_cases w:t<tm₀.length;rw[h.yes k q t b a w n,c.yes k q t b a w v];rw[Xi (by rw[h.len];omega),Xi (by rw[c.len];omega)];have p:¬ L k:=fun x=>z (qj6 cQ y k i x d)
 have v:=z8v cQ k i d;rw[h.no k q t b a p,c.no k q t b a ag]
omit cQ in
def Mb{p q:Nat}(s:p<=q)(o:q<=rs.length)(b : ∀(e:Nat)(r:eK),p<=e->e<q->rs[e]? = some r->r.act=false): kJ rs Y' p=kJ rs Y' q:=by
  induction q with
  | zero => have : p = 0 := by omega
            rw[this]
  |succ q m=>
    obtain h |h:=XL q p;have:p=q+1:=by omega
    rw[this];rw[m h ag fun e r d n f=> b e r d ag f];have a:rs[q]? = some rs[q]:=by simp[show q<rs.length by omega]
    obtain⟨_,g2,c,_⟩:=jM.all q _ a;rw[c,g2.quiet (b q _ h (zN _) a)];simp[kJ,a]
omit jM cQ in
def za8{i p:Nat}(h:∃(e:Nat)(q:eK),i<e/\e<p/\rs[e]? = some q/\q.act=true):∃(e:Nat)(q:eK),i<e/\e<p/\rs[e]? = some q/\q.act=true/\∀(a:Nat)(b:eK),e<a->a<p->rs[a]? = some b->b.act=false:=by
 obtain⟨e,q,g1,g2,c,d⟩:=h;have:∀(n e:Nat)(q:eK),p-e=n->i<e->e<p->rs[e]? = some q->q.act=true->∃(e:Nat)(q:eK),i<e/\e<p/\rs[e]? = some q/\q.act=true/\∀(a:Nat)(b:eK),e<a->a<p->rs[a]? = some b->b.act=false:=by
  intro n;induction n using Nat.strongRecOn with
  |_ n f=>intro e q y g1 g2 c d;by_cases t:∃(a:Nat)(b:eK),e<a/\a<p/\rs[a]? = some b/\b.act=true;obtain⟨a,b,s,m,o,w⟩:=t;exact f (p-a) ag a b rfl ag m o w;exact⟨e,q,g1,g2,c,d,fun a b s m o=>by cases v:b.act with |false=>rfl |true=>exact absurd ⟨a,b,s,m,o,v⟩ t⟩
 exact this _ e q rfl g1 g2 c d
omit jM cQ in
def z5o{i p:Nat}(h:∃(e:Nat)(q:eK),p<=e/\e<i/\rs[e]? = some q/\q.act=true):∃(e:Nat)(q:eK),p<=e/\e<i/\rs[e]? = some q/\q.act=true/\∀(a:Nat)(b:eK),p<=a->a<e->rs[a]? = some b->b.act=false:=by
 obtain⟨e,q,g1,g2,c,d⟩:=h;have:∀(e:Nat)(q:eK),p<=e->e<i->rs[e]? = some q->q.act=true->∃(e:Nat)(q:eK),p<=e/\e<i/\rs[e]? = some q/\q.act=true/\∀(a:Nat)(b:eK),p<=a->a<e->rs[a]? = some b->b.act=false:=by
  intro e;induction e using Nat.strongRecOn with
  |_ e f=>intro q g1 g2 c d;by_cases s:∃(a:Nat)(b:eK),p<=a/\a<e/\rs[a]? = some b/\b.act=true;obtain⟨a,b,m,n,o,v⟩:=s;exact f a n b m ag o v;exact⟨e,q,g1,g2,c,d,fun a b m n o=>by cases t:b.act with |false=>rfl |true=>exact absurd ⟨a,b,m,n,o,t⟩ s⟩
 exact this e q g1 g2 c d
variable(l:QJ T j.toList rs)
include g l
def z9d{ro:A Nat}{x0:Cx}{m0:Nm}{w0:Jb}{E:Exit->Act->Jb->Prop}{df:X Deferred}(hQ:∀y tv m w a,y.Y=Y'->St F y tm' tv m w a->bJ m0 x0.s w0 m y.s w->Ke n0 x0 y->n0<=y.Y.nx->a.defers=df->E .normal a w):
  ∀(z:Nat)(v:Ie Rl)(a:Act)(w:Jb)(m:Nm)(p:Nat)(tm:X U)(tv:X I)(x:Cx),v.size=j.size->v.toList.count false=z->
   ep j.toList (fun k=>v.getD k false=true)->(∀(e:Nat)(r:eK),rs[e]? = some r->r.act=false->r.mv=true->v.getD e false=true)->P7 tm₀ rs (fun k=>v.getD k false=true) tm->p<=rs.length-> (∀(e:Nat)(r:eK),rs[e]? = some r->r.act=true->(v.getD e false=true↔e<p))->x.Y=kJ rs Y' p->St F x tm tv m w a->bJ m0 x0.s w0 m x.s w->Ke n0 x0 x->n0<=x.Y.nx->a.defers=df->
   wpAnyIn (oQ ro) 0 P .any j E z v a w:=by
 have hn:rs.length=j.size:=by simpa using jM.len
 intro z;induction z with
 |zero=>
  intro v a w m p tm tv x dV zq fB hqa sG hp qH fF O aO eC gY iO;have cD:∀k,k<j.size->v.getD k false=true:=fun k G=>by
   have sQ:k<v.size:=by omega
   have:v[k]≠false:=fun hf=>by
    have hm:false∈v.toList:=by rw[<-hf];simp
    have:=count_pos_iff.2 hm;omega
   have this':v[k]=true:=by simpa using this
   simp[Array.getD,sQ,this']
  have Fg:Region.ready .any j v=[]:=by
   apply filter_eq_nil_iff.2;intro k G;simp only[qcG]at G;have sQ:k<v.size:=by omega
   have:=cD k G;simp[Array.getD,sQ]at this;simp[Array.getD,sQ,this]
  refine⟨Fg,?_⟩;have es:kJ rs Y' p=Y':=by rw[Mb j jM hp (zF _) fun e r D h2 h3=>by rcases J:r.act with _|_;rfl;have:=(qH e r h3 J).1 (cD e ag);omega];simp[kJ]
  have et:tm=tm':=by
   have D:=A! j jM cQ rs.length<|zF _;have V:xS rs tm' rs.length=tm':=by simp[xS]
   rw[V]at D;refine qyl (L:=fun k=>k<rs.length) ⟨sG.len,fun k r d g1 g2 R g4=>sG.yes k r d g1 g2 R<|cD k ag,fun k r d g1 g2 R=>?_,sG.other⟩ D;have:=(zG.1 g1).1;exact absurd this R
  rw[et]at O;exact hQ x tv m w a (fF.trans es) O aO eC gY iO
 |succ z ih=>
  intro v a w m p tm tv x dV zq fB hqa sG hp qH fF O aO eC gY iO;have mem_ready:∀i,i∈Region.ready .any j v↔i<j.size/\v.getD i true=false/\∃o,j[i]? = some o/\∀e∈o.after.toList,Region.binds .any e=true->v.getD e.on false=true:=by
   intro i;unfold Region.ready;rw[qcB,qcG];refine and_congr_right fun hi=>?_;have ho:j[i]? = some j[i]:=by simp[hi]
   simp only[ho,zM,gK,fO,vP,qbG,nw];refine and_congr_right fun _=>?_;constructor;intro h;refine⟨_,rfl,fun e he J=>?_⟩;rcases h e (by simpa using he)with D |D
   simp[J]at D;exact D;rintro⟨o,ho',h⟩ e he;cases ho';rcases J:Region.binds .any e with _|_;exact .inl rfl;exact .inr (h e (by simpa using he) J)
  refine⟨fun Fp=>?_,fun i hi=>?_⟩;exfalso;have qU:∃i,i<j.size/\v.getD i true=false:=by
   have jY:0<v.toList.count false:=by omega
   obtain⟨i,hi,e⟩:=mem_iff_getElem.1<|count_pos_iff.1 jY;simp at hi;refine⟨i,by omega,?_⟩;simp only[Array.getElem_toList]at e;simp[Array.getD,hi,e]
  have pO:∀n,n<j.size->v.getD n true=false->False:=by
   intro n;induction n using Nat.strongRecOn with
   |_ n ihn=>
    intro om qc;have:n∈Region.ready .any j v:=(mem_ready n).2 ⟨om,qc,j[n],by simp[om],fun e he J=>by
     have aH:=G_ cQ (i:=n) (o:=j[n]) (by simp[om]) e he J;have sQ:e.on<v.size:=by omega
     cases hv:v[e.on]with|true=>simp[Array.getD,sQ,hv]|false=>exact(ihn e.on aH ag<|by simp[Array.getD,sQ,hv]).elim⟩
    rw[Fp]at this;cases this
  obtain⟨i,D,h2⟩:=qU;exact pO i D h2;obtain⟨hilt,nJ,o,ho,Gs⟩:=(mem_ready i).1 hi;have QZ:i<v.size:=by omega
  have d_:¬ v.getD i false=true:=by simp[Array.getD,QZ]at nJ ⊢;exact nJ
  have FY:j.toList[i]? = some o:=by simpa using ho
  obtain⟨r,N,eN⟩:=ZW j jM FY;subst eN;have CU:∀q,j.toList[i]? = some q->∀e∈q.after.toList,Region.binds .any e=true->v.getD e.on false=true:=fun q S=>by rw[FY]at S;cases S;exact Gs
  have Fx:=quv j jM cQ fB sG N d_ CU;obtain⟨_,qx,tP,_⟩:=jM.all i r N;have Pa:kJ rs Y' i=r.s:=by simp[kJ,N]
  have wB:∀k,((v.setIfInBounds i true).getD k false=true)↔(v.getD k false=true\/k=i):=fun k=>by by_cases G:k=i;subst G;simp[Array.getD,QZ];by_cases vF:k<v.size;simp[Array.getD,vF,G,Wv G];simp[Array.getD,vF,G]
  have zt:ep j.toList (fun k=>(v.setIfInBounds i true).getD k false=true):=fun k q G S e he J=>by refine(wB e.on).2 (.inl ?_);rcases(wB k).1 G with G |rfl;exact fB k q G S e he J;exact CU q S e he J
  have Zs:∀(e:Nat)(r:eK),rs[e]? = some r->r.act=false->r.mv=true->(v.setIfInBounds i true).getD e false=true:=fun e q D h2 h3=>(wB e).2 (.inl<|hqa e q D h2 h3);have KJ:P7 tm₀ rs (fun k=>(v.setIfInBounds i true).getD k false=true) (eH tm r.o.dst r.u):=by have:=qsz j jM cQ sG N;exact⟨this.len,fun k q d a b c hL=>this.yes k q d a b c<|(wB k).1 hL,fun k q d a b hL=>this.no k q d a b fun x=>hL<|(wB k).2 x,this.other⟩
  have WC:(v.setIfInBounds i true).toList.count false=z:=by
   have hv:v[i]=false:=by simpa[Array.getD,QZ]using nJ
   rw[qcK,count_set<|by simpa using QZ];have RP:Array.count false v=z+1:=by simpa using zq
   simp[hv];omega
  obtain⟨CV,Zd⟩:=Dq Fx;have Q:r.act=false->∀y H B t C,y.Y=kJ rs Y' p->St F y (eH tm r.o.dst r.u) H B t C->bJ m0 x0.s w0 B y.s t->Ke n0 x0 y->n0<=y.Y.nx->C.defers=df->wpAnyIn (oQ ro) 0 P .any j E z (v.setIfInBounds i true) C t:=fun G y H B t C D h2 h3 h4 h5 h6=>by refine ih _ _ _ B p _ H y (by simpa using dV) WC zt Zs KJ hp (fun e q S Fj=>?_) D h2 h3 h4 h5 h6;rw[wB];by_cases W:e=i;subst W;rw[N]at S;cases S;rw[G]at Fj;cases Fj;simp only[W,or_false];exact qH e q S Fj
  have past:r.act=true->kJ rs Y' p=r.s/\∀y H B t C,y.Y=r.s'->St F y (eH tm r.o.dst r.u) H B t C->bJ m0 x0.s w0 B y.s t->Ke n0 x0 y->n0<=y.Y.nx->C.defers=df->wpAnyIn (oQ ro) 0 P .any j E z (v.setIfInBounds i true) C t:=fun G=>by
   have cR:p<=i:=by obtain h |h:=XL i p;exact absurd ((qH i r N G).2 h) d_;exact h
   have hil':i<rs.length:=(zG.1 N).1;have L4:∀(e:Nat)(q:eK),p<=e->e<i->rs[e]? = some q->q.act=false:=fun e q D h2 h3=>by rcases J:q.act with _|_;rfl;have:=gu cQ fB CU<|l.r6 i e r q N h3 G J h2;have:=(qH e q h3 J).1 this;omega
   refine⟨(Mb j jM cR ag L4).trans Pa,fun y H B t C D h2 h3 h4 h5 h6=>?_⟩;refine ih _ _ _ B (i+1) _ H y (by simpa using dV) WC zt Zs KJ ag (fun e q S Fj=>?_) (D.trans tP.symm) h2 h3 h4 h5 h6;rw[wB];by_cases W:e=i;subst W;simp;simp only[W,or_false];constructor;intro wh;have:=(qH e q S Fj).1 wh;omega;intro aH;exact gu cQ fB CU (l.r6 i e r q N S G Fj ag)
  unfold wpOpIn;simp only[ho];rw[gj (O.act m<|aJ.refl _ _) j r.o];obtain⟨Z,hu,M,_⟩|⟨Z,sK,hqu⟩|⟨Z,M,f,args,ED,lR⟩|⟨Z,M,_,WB⟩|⟨M,hm,_⟩|⟨Z,M,u1,s1,d,sK,hd,xL,R7,xI⟩:=qx;rw[B9 O.e<|Zd.trans Z];simp only[XM,LX];rw[hu]at Q;exact⟨fun _ _=>trivial,Q M x _ m w _ fF (O.skip r.o.dst) aO eC gY<|(FD _ _ _).trans iO⟩;rw[B9 O.e<|Zd.trans Z];simp only[It];cases M:r.act with
  |true=>
   obtain⟨jN,oJ⟩:=past M;have yN:bH T x.Y tm r.o.op=some (r.u,r.s'):=by rw[fF,jN,gw CV];exact sK
   exact v7 (P8 yN) (O.op g r.o yN fun y H B t C V bA bI cU nT eU=>oJ y H B t C V bA (aO.trans bI) (eC.trans<|cU.le gY) ag<|eU.trans iO)
  |false=>
   have Oz:=hqu M;have eI:bH T (kJ rs Y' p) r.tm r.o.op=some (r.u,kJ rs Y' p):=by
    obtain hip |hip:=XL i p;by_cases qU:∃(e:Nat)(q:eK),i<e/\e<p/\rs[e]? = some q/\q.act=true;obtain⟨e,q,g1,g2,R,g5,g6⟩:=za8 qU;have es:kJ rs Y' (e+1)=kJ rs Y' p:=Mb j jM ag hp fun e' q' k1 k2 k3=>g6 e' q' ag k2 k3
    have eq':kJ rs Y' (e+1)=q.s':=(jM.all e q R).2.2.1;rw[<-es,eq'];obtain k4 |k4 |k4:=l.hi i e r q N R M Z sK g5 g1;have wh:v.getD e false=true:=(qH e q R g5).2 g2;exact absurd (qj6 cQ fB e i wh k4) d_;rw[k4,sK,Oz];exact k4;have es:kJ rs Y' i=kJ rs Y' p:=Mb j jM ag hp fun e q k1 k2 k3=>by
     obtain h |h:=XL i e;rcases J:q.act with _|_;rfl;exact absurd ⟨e,q,h,k2,k3,J⟩ qU;have:e=i:=by omega
     subst this;rw[N]at k3;cases k3;exact M
    rw[<-es,Pa,sK,Oz];by_cases qU:∃(e:Nat)(q:eK),p<=e/\e<i/\rs[e]? = some q/\q.act=true;obtain⟨e,q,g1,g2,R,g5,g6⟩:=z5o qU;have es:kJ rs Y' p=kJ rs Y' e:=Mb j jM g1 (by have:=(zG.1 R).1;omega) fun e' q' k1 k2 k3=>g6 e' q' k1 k2 k3;have eq':kJ rs Y' e=q.s:=by simp[kJ,R]
    rw[es,eq'];obtain k4 |k4 |k4:=l.lo i e r q N R M Z sK g5 g2;have wh:=gu cQ fB CU k4;have:=(qH e q R g5).1 wh;omega;rw[k4,sK,Oz];exact k4;have es:kJ rs Y' p=kJ rs Y' i:=Mb j jM hip (by have:=(zG.1 N).1;omega) fun e q k1 k2 k3=>by rcases J:q.act with _|_;rfl;exact absurd ⟨e,q,k1,k2,k3,J⟩ qU
    rw[es,Pa,sK,Oz]
   have yN:bH T x.Y tm r.o.op=some (r.u,kJ rs Y' p):=by rw[fF,gw CV];exact eI
   exact v7 (P8 yN) (O.op g r.o yN fun y H B t C V bA bI cU nT eU=>Q M y H B t C V bA (aO.trans bI) (eC.trans<|cU.le gY) ag<|eU.trans iO)
  rw[B9 O.e<|Zd.trans Z];simp only[It];obtain⟨jN,oJ⟩:=past M;have hev':aT P f args x.Y (fun u Y=>u=r.u/\Y=r.s'):=by rw[fF,jN];exact lR
  refine v7 (Tp<|(Rf CV).trans ED)<|O.call g r.o ((Rf CV).trans ED) hev' fun y u H B t C hR bA bI cU nT eU=>?_;obtain⟨rfl,hR2⟩:=hR;exact oJ y H B t C hR2 bA (aO.trans bI) (eC.trans<|cU.le gY) ag<|eU.trans iO;rw[B9 O.e<|Zd.trans Z];simp only[It];exact v7 (WB.congr CV).nd (O.free g r.o (WB.congr CV) fun y H B t C V bA bI cU nT eU=>Q M y H B t C (V.trans fF) bA (aO.trans bI) (eC.trans<|cU.le gY) ag<|eU.trans iO);exact absurd (hqa i r N M hm) d_;rw[B9 O.e<|Zd.trans Z];simp only[It];obtain⟨jN,oJ⟩:=past M;have yN:bH T x.Y tm r.o.op=some (u1,s1):=by rw[fF,jN,gw CV];exact sK
  have aP:tm.length=r.tm.length:=by
   have D:=(A! j jM cQ i<|eW (zG.1 N).1).len;have V:xS rs tm' i=r.tm:=by simp[xS,N]
   rw[V]at D;rw[sG.len,D]
  exact v7 (P8 yN) (O.tE g r.o yN hd (by rw[aP];exact xL) R7 xI fun y H B t C V bA bI cU nT eU=>oJ y H B t C V bA (aO.trans bI) (eC.trans<|cU.le gY) ag<|eU.trans iO)
end
end Go.Vx
namespace Go.Vx
open Go Go.Rx
def RD(P:Ib)(T:Tb)(c:X Oper):X Oper->X U->Sg->(X eK->X U->Sg->Prop)->Prop
 |[],a,Y,K=>K [] a Y|o::r,a,Y,K=>(c9 c a o=some true/\∃u,bH T Y a o.op=some (u,Y)/\RD P T c r (eH a o.dst u) Y (fun e=>K (⟨a,o,u,false,false,Y,Y⟩::e)))\/ (c9 c a o=some true/\∃u b,bH T Y a o.op=some (u,b)/\RD P T c r (eH a o.dst u) b (fun e=>K (⟨a,o,u,true,true,Y,b⟩::e)))\/ (c9 c a o=some true/\∃f args u,kM T a o.op=some (f,args)/\aT P f args Y (fun h b=>h=u/\b=Y)/\RD P T c r (eH a o.dst u) Y (fun e=>K (⟨a,o,u,true,false,Y,Y⟩::e)))\/ (c9 c a o=some true/\∃f args u b,kM T a o.op=some (f,args)/\aT P f args Y (fun h j=>h=u/\j=b)/\RD P T c r (eH a o.dst u) b (fun e=>K (⟨a,o,u,true,true,Y,b⟩::e)))\/ (c9 c a o=some false/\RD P T c r (eH a o.dst<|.a7 []) Y (fun e=>K (⟨a,o,.a7 [],false,false,Y,Y⟩::e)))\/ (c9 c a o=some true/\∃u,uY P T a o.op u/\RD P T c r (eH a o.dst u) Y (fun e=>K (⟨a,o,u,false,false,Y,Y⟩::e)))\/ (c9 c a o=some true/\∃i g d u b,bH T Y a o.op=some (i,g)/\o.dst=some d/\d<a.length/\Gh g.nx [i] g [u] b/\g.nx<=b.nx/\RD P T c r (eH a o.dst u) b (fun e=>K (⟨a,o,u,true,true,Y,b⟩::e)))
def TF{P:Ib}{T:Tb}{q:X Oper}:∀(a:X Oper)(m:X U)(Y:Sg)(K:X eK->X U->Sg->Prop),RD P T q a m Y K->
  ∃c b l,K c b l/\c.length=a.length/\kJ c l 0=Y/\xS c b 0=m/\
   ∀(i:Nat)(r:eK),c[i]? = some r->a[i]? = some r.o/\Good P T q r/\kJ c l (i+1)=r.s'/\xS c b (i+1)=eH r.tm r.o.dst r.u/\(r.mv=false->r.s'=r.s)/\(r.mv=true->r.act=true)
 |[],m,Y,K,h=>⟨[],m,Y,h,rfl,rfl,rfl,fun i r p=>by simp at p⟩|o::a,m,Y,K,h=>by
  have step:∀(u:U)(t mv:Rl)(j:Sg),RD P T q a (eH m o.dst u) j (fun c=>K (⟨m,o,u,t,mv,Y,j⟩::c))->Good P T q ⟨m,o,u,t,mv,Y,j⟩->(mv=false->j=Y)->(mv=true->t=true)->
    ∃c b l,K c b l/\c.length=(o::a).length/\kJ c l 0=Y/\xS c b 0=m/\
     ∀(i:Nat)(r:eK),c[i]? = some r->(o::a)[i]? = some r.o/\Good P T q r/\kJ c l (i+1)=r.s'/\xS c b (i+1)=eH r.tm r.o.dst r.u/\(r.mv=false->r.s'=r.s)/\(r.mv=true->r.act=true):=by
   intro u t mv j h B e k;obtain⟨c,b,l,g1,g2,v,w,x⟩:=TF a _ _ _ h;refine⟨_,b,l,g1,by simp[g2],rfl,rfl,fun i r p=>?_⟩;cases i with
   |zero=>simp at p;subst p;refine⟨rfl,B,?_,?_,e,k⟩;simp only[kJ,zH];exact v;simp only[xS,zH];exact w|succ i=>simp only[zH]at p;obtain⟨C,D,E,F,G⟩:=x i r p;refine⟨by simpa using C,D,?_,?_,G⟩;simp only[kJ,zH];exact E;simp only[xS,zH];exact F
  simp only[RD]at h;obtain⟨g,u,e,k⟩|⟨g,u,j,e,k⟩|⟨g,f,args,u,e,k,n⟩|⟨g,f,args,u,j,e,k,n⟩|⟨g,e⟩|⟨g,u,e,n⟩|⟨g,I,H,d,u,j,e,k,n,y,z,A⟩:=h;exact step u false false Y k (.inr<|.inl ⟨g,e,fun _=>rfl⟩) (fun _=>rfl) ca;exact step u true true j k (.inr<|.inl ⟨g,e,by simp⟩) ca ca;exact step u true false Y n (.inr<|.inr<|.inl ⟨g,rfl,f,args,e,k⟩) (fun _=>rfl) ca;exact step u true true j n (.inr<|.inr<|.inl ⟨g,rfl,f,args,e,k⟩) ca ca;exact step _ false false Y e (.inl ⟨g,rfl,rfl,rfl⟩) (fun _=>rfl) ca;exact step u false false Y n (.inr<|.inr<|.inr<|.inl ⟨g,rfl,rfl,e⟩) (fun _=>rfl) ca;exact step u true true j A (.inr<|.inr<|.inr<|.inr<|.inr ⟨g,rfl,I,H,d,e,k,n,y,z⟩) ca ca
section
variable{C:PG}{T:Tb}(b:j0 C.prog T){n0:Nat}{Q:Exit->X U->Sg->Prop}{tm:X U}{Y:Sg}
include b
def I6.drawn{id:Nat}{c:Ie Oper}(B:Bq c.toList=true){rs:X eK}{f:X U}{s:Sg}(v:p_ C.prog T c.toList tm Y rs f s)(z:QJ T c.toList rs)(p:∀(i:Nat)(r:eK),rs[i]? = some r->r.mv=true->r.act=true)(I:Q .normal f s):I6 C n0 (.region id c true) tm Y Q:=fun K F x L m w a N u st P J ro O=>by
 refine wpIn_region_any b.mixed ?_;have l:∀k,(Array.replicate c.size false).getD k false=false:=fun k=>by by_cases j:k<c.size<;>simp[Array.getD,j]
 have R:=bJ.draw (w.drawn+1) st.fits;refine z9d (ro:=ro) b c v B z (n0:=n0) (F:=F) (x0:=x) (m0:=m) (w0:=w) (df:=a.defers) (fun y A D S M n o g E G H=>⟨y,f,A,D,n ▸ I,o,g,E,G,by rw[H];exact J.kE st.fits g⟩) c.size (Array.replicate c.size false) a _ m 0 tm L x ca ca ?_ (fun e r n o g=>by have:=p e r n g;rw[o]at this;cases this) ?_ (qq _) ?_ ?_ ?_ ?_ (Ke.refl _ _) (u ▸ K) rfl;intro k q j;rw[l]at j;cases j;have:=qoo (rs:=rs) (tm₀:=tm);exact⟨this.len,fun k r d _ _ _ t=>(by rw[l]at t;cases t),fun k r d g1 g2 _=>this.no k r d g1 g2 fun x=>x,this.other⟩;intro e r _ _;rw[l];simp;rw[v.s0];exact u;exact⟨st.h,st.fr,st.e,(bJ.draw _ st.fits).fits,st.act⟩;exact bJ.draw _ st.fits
end
section
variable{K:X U->Sg->Prop}{Q:Exit->X U->Sg->Prop}{tm:X U}{Y:Sg}{i j:Nat}
def Yl(h:Q .normal tm Y):v8 i Q (.exit i) tm Y:=by simp only[v8,It];exact h
def Yk(a:¬ j=i)(h:Q (.exit j) tm Y):v8 i Q (.exit j) tm Y:=by simp only[v8,a,LX];exact h
end
variable{C:PG}{T:Tb}{d:X Oper}{r:X Oper}{o:Oper}{tm:X U}{Y:Sg}{f:FuncId}{args:X U}
def RU.call{K:X U->Sg->Prop}{R:U->Sg->Prop}(c:c9 d tm o=some true)(b:kM T tm o.op=some (f,args))(e:aT C.prog f args Y R)
  (h:∀u a,R u a->RU C T d r (eH tm o.dst u) a K):RU C T d (o::r) tm Y K:=.inr (.inl ⟨c,f,args,R,b,e,h⟩)
def I6.tM{k:Nat}{Q:Exit->X U->Sg->Prop}{c:Code}(a:Nat->X U->Sg->Prop)(n:Nat)(g:a n tm Y)
  (round:∀n tm Y,a n tm Y->I6 C k c tm Y (wS (fun l m=>∃j i b,j<n/\a j i b/\k<=b.nx/\Gh k l m i b) Q)):I6 C k (.loop c) tm Y Q:=by
 refine I6.loop a n g fun n tm Y w=>?_;refine I6.after (round n tm Y w) ?_;intro e q p x h;cases e with
 |normal=>obtain⟨j,i,b,s,t,u,v⟩:=h;exact⟨i,b,u,v,j,s,t⟩
 |_=>exact⟨q,p,x,Gh.refl _ _ _,h⟩
def Gh.to{e n1:Nat}{b:X U}{c:Sg}(a:X Rl)(m:IZ a tm=b)(l:(⟨Vx.cut n1 Y.h,n1⟩:Sg)=c)(g:e<=n1)(i:n1<=Y.nx)(j:aG n1 b)(k:GU n1 c.h):Gh e tm Y b c:=by subst m;subst l;exact(Gh.L2 e a tm Y).trans (Gh.cut g i j k)
def vA{a:Type}{n:Nat}(f:a->X U)(h:∀x,aG n<|f x)(l:X a):lL n (l.map f):=by rw[Mp];intro c b;obtain⟨x,_,rfl⟩:=mem_map.1 b;exact h x
def RF(P:Ib)(T:Tb)(d a:X Oper)(tm:X U)(Y:Sg)(e:X (Rl×Rl))(K:X (Rl×Rl)->X U->Sg->Prop):Prop :=
 RD P T d a tm Y (fun g b c=>K (e++g.map fun r=>(r.act,r.mv)) b c)
def RF.eq(P:Ib)(T:Tb)(d:X Oper){f g:X eK->X U->Sg->Prop}(h:f=g){a:X Oper}(b:RD P T d a tm Y f):RD P T d a tm Y g:=h ▸ b
def z5p{K:X (Rl×Rl)->X U->Sg->Prop}(e:X (Rl×Rl))(r:eK)(a b:Rl)(g:r.act=a)(h:r.mv=b):
  (fun(c:X eK) (tm:X U) (Y:Sg)=>K (e++[(a,b)]++c.map fun r=>(r.act,r.mv)) tm Y)=(fun c=>(fun(c:X eK) tm Y=>K (e++c.map fun r=>(r.act,r.mv)) tm Y) (r::c)):=by subst g;subst h;funext c tm Y;simp
variable{u:U}
def RF.call{P:Ib}{a:X (Rl×Rl)}{K:X (Rl×Rl)->X U->Sg->Prop}(e:c9 d tm o=some true)(c:kM T tm o.op=some (f,args))(g:aT P f args Y (fun i b=>i=u/\b=Y))
  (h:RF P T d r (eH tm o.dst u) Y (a++[(true,false)]) K):RF P T d (o::r) tm Y a K:=by simp only[RF,RD];exact .inr (.inr<|.inl ⟨e,f,args,u,c,g,RF.eq P T d (z5p a _ true false rfl rfl) h⟩)
def RU.tN{K:X U->Sg->Prop}(i:c9 d tm o=some true)(g:kM T tm o.op=some (f,args))(j:aT C.prog f args Y (fun b a=>b=u/\a=Y))
  (h:RU C T d r (eH tm o.dst u) Y K):RU C T d (o::r) tm Y K:=RU.call i g j (fun b a ⟨c,e⟩=>by subst c;subst e;exact h)
def aT.tY{P:Ib}(h:aT P f args ⟨[],0⟩ (fun a _=>a=u/\aS 0 a))(c:aG 0 args)(Y:Sg):aT P f args Y (fun a b=>a=u/\b=Y):=aT.pure h c Y
end Go.Vx
