import Derived.IntWalk
import Derived.Test.YtmflfedkfdkipaaGreatP4
set_option linter.all false
open List Go.IntKind
open Nat hiding beq_eq
namespace Go.Rx
open Go
def WP(P:Ib)(c:Code)(h:X I)(s:S)(Q:Exit->X I->S->Prop):Prop :=
 ∀m w a,fW m s w->wQ m s.nx h a->a.defers=[]->
  c.wp P (fun e f i=>∃g b d,Q e b d/\bJ m s w g d i/\wQ g d.nx b f/\f.defers=[]) a w
def Gp(s a:S):Prop:=s.nx<=a.nx/\∀i b,lk a.h i=some b->lk s.h i=some b
def bJ.less{m:Nm}{s g:S}{w:Jb}(h:fW m s w)(a:Gp s g):bJ m s w m g w:=by refine⟨aJ.refl _ _,a.1,fun q l=>?_,?_,fun _ _ _=>rfl,zF _,rfl,rfl,rfl⟩;have f:=h q<|l.mono a.1;exact⟨fun i b e=>f.ok i b<|a.2 i b e,fun i j b c e n=>f.inj i j b c (a.2 i b e)<|a.2 j c n,fun i b e=>Xj (f.bd i b<|a.2 i b e) a.1⟩;rintro k ⟨j,d,o,p,rfl⟩;exact .inl ⟨j,d,a.2 j d o,p,rfl⟩
def wrap_i64{x:Int}(a : -9223372036854775808<=x)(b:x<=9223372036854775807):i64.wrap x=x:=IntWalk.i64_in x ⟨a,b⟩
section
variable{P:Ib}{Q:Exit->X I->S->Prop}{tm:X I}{s:S}
def WP.exit{id:Nat}(h:Q (.exit id) tm s):WP P (.exit id) tm s Q:=fun m _ _ c a b=>wp_exit ⟨m,tm,s,h,bJ.refl c,a,b⟩
def qvw(id:Nat)(Q:Exit->X I->S->Prop):Exit->X I->S->Prop
 |.exit a,tm,s=>if a=id then Q .normal tm s else Q (.exit a) tm s|e,tm,s=>Q e tm s
def WP.block{id:Nat}{c:Code}(h:WP P c tm s (qvw id Q)):WP P (.block id c) tm s Q:=fun m w a q o p=>by
 refine wp_block<|wp_mono (h m w a q o p) ?_;rintro e r w' ⟨k,b,l,d,f,g,i⟩;cases e with
 |exit j=>simp only[Exit.inBlock];simp only[qvw]at d;by_cases n:j=id;simp only[n,It]at d ⊢;exact⟨k,b,l,d,f,g,i⟩;simp only[n,LX]at d ⊢;exact⟨k,b,l,d,f,g,i⟩|_=>exact⟨k,b,l,d,f,g,i⟩
variable{T:Tb}(a:j0 P T){call:GY}(b:Lo P call)
include a b
end
def p0(d:X I)(op:Op):A I :=
 match op with
 |.move x=>F8 d x|.assign x=>F8 d x
 |.pick c a b=>match F8 d c with
  |some (.bool true)=>F8 d a|some (.bool false)=>F8 d b
  |_=>none
 |.nilCheck x=>match F8 d x with
  |some (.pointer<|some a)=>some (.pointer<|some a)|_=>none
 |.binOp op _ x y _=>match F8 d x,F8 d y with
  |some (.int k a),some (.int e b)=>lD op k a e b|_,_=>none
 |.unOp op _ x=>match F8 d x with
  |some a=>T5 op a|none=>none
 |.makeFunc fn first cap=>match oS d first.toList,oS d cap.toList with
  |some a,some b=>some (.func fn a.toArray b.toArray)|_,_=>none
 |.extract x i=>match F8 d x with
  |some a=>Mk a i|none=>none
 |.call c=>match c.callee with
  |.builtin .max=>match oS d c.args.toList with
   |some (x::l)=>B0 Ah x l|_=>none
  |.builtin .min=>match oS d c.args.toList with
   |some (x::l)=>B0 TP x l|_=>none
  |_=>none
 |_=>none
section
variable{T:Tb}{call:GY}{a rest:X Oper}{o:Oper}{tm:X I}{s:S}{K:X I->S->Prop}
end
section
variable{P:Ib}{Q:Exit->X I->S->Prop}{tm:X I}{s:S}{T:Tb}(a:j0 P T){call:GY}(b:Lo P call)
include a b
end
end Go.Rx
namespace Go.Vx
open Go Go.Rx
inductive U where
 |L2
 |bool (b:Bool)
 |int (k:IntKind) (n:Int)
 |str (s:List UInt8)
 |b8
 |ptr (k st off:Nat)
 |b4 (l:List U)
 |J
 |sl (k off n c:Nat)
 |vl (k st off n:Nat)
 |O (t:Bool) (l:List (List U))
 |e9
 |map (k:Nat)
 |fn (f:Fn) (first cap:List U)
 |j7
 |j9
 |agg (l:List U)
 |a7 (l:List U)
 deriving Inhabited
def Y9:U->Rl
 |.L2=>false|.agg _=>false
 |.a7 _=>false|_=>true
def I5:X U->Rl
 |[]=>true|u::l=>cond (Y9 u) (I5 l) false
def NB(l:X U):I5 l=true↔∀u∈l,Y9 u=true:=by induction l with|nil=>simp[I5]|cons u l a=>cases h:Y9 u<;>simp[I5,h,a]
structure ME where
 key:U
 val:U
 born:Nat
inductive B where
 |row (l:List U) (e:TypeId)
 |vec (l:List U) (e:TypeId) (sz st:Nat)
 |map (es:List ME) (cl:Nat)
structure Sg where
 h:X (Nat×B)
 nx:Nat
def gt:X (Nat×B)->Nat->A B
 |[],_=>none|(j,b)::h,i=>cond (Nat.beq j i) (some b) (gt h i)
def ug:X (Nat×B)->Nat->B->X (Nat×B)
 |[],_,_=>[]|(j,b)::h,i,c=>cond (Nat.beq j i) ((j,c)::h) ((j,b)::ug h i c)
def aV(j:Nat)(b:B)(h:X (Nat×B))(i:Nat):gt ((j,b)::h) i=if j=i then some b else gt h i:=by simp only[gt,beq_eq];by_cases e:j=i<;>simp[e]
def bT(h:X (Nat×B))(i:Nat)(c:B)(j:Nat):gt (ug h i c) j=if i=j then(gt h i).map (fun _=>c)else gt h j:=by induction h with|nil=>simp[ug,gt]|cons x h f=>obtain⟨k,b⟩:=x;simp only[ug,beq_eq];by_cases e:k=i;subst e;simp only[yC,zC,aV];by_cases a:k=j<;>simp[a];simp only[e,yB,zD,aV,f];by_cases a:i=j;subst a;simp[e];by_cases d:k=j<;>simp[a,d]
def B.st:B->Nat
 |.vec _ _ _ st=>st|_=>0
structure Cx where
 Z:Nat->A Nat
 Y:Sg
 s:S
def Ref(x:Cx)(k st:Nat)(p:A Nat->Prop):Prop:=k<x.Y.nx/\∀b,gt x.Y.h k=some b->st<=b.st/\(st=b.st->p (x.Z k))
def IV(off n:Nat)(v:I)(b:Nat):A Nat->Prop
 |none=>off=0/\n=0/\∃o,v=.slice o 0 0/\∀a,o=some a->a.spot=none|some i=>(0<off/\n=0/\∃a c,v=.slice (some a) 0 c/\a.spot=none)\/v=.slice (some ⟨i,off*b,none⟩) n (cP+off)
mutual
def aD(x:Cx):U->I->Prop
 |.L2,_=>True|.bool b,v=>v=.bool b
 |.int k n,v=>v=.int k n|.str l,v=>v=.string ⟨⟨l⟩⟩
 |.b8,v=>v=.pointer none|.ptr k st off,v=>v.oneCell'=true/\Ref x k st fun o=>∃i,o=some i/\v=.pointer (some ⟨i,off,none⟩)
 |.b4 l,v=>∃i off row e,v=.pointer (some ⟨i,off,none⟩)/\lk x.s.h i=some (.inl (row,e,1))/\c7 x l (row.drop off)/\I5 l=true|.J,v=>v=.slice none 0 0
 |.sl k off n c,v=>v.oneCell'=true/\Ref x k 0 fun o=>∃i,o=some i/\v=.slice (some ⟨i,off,none⟩) n c/\c<cP/\n<=c
 |.vl k st off n,v=>v.oneCell'=true/\k<x.Y.nx/\∀b,gt x.Y.h k=some b->st<=b.st/\(st=b.st->∃l e d,b=.vec l e d st/\IV off n v d (x.Z k))|.O t l,v=>(l=[]/\(v=.slice none 0 0\/∃r,v=.chan (some r)))\/∃i off c,v=.slice (some ⟨i,off,none⟩) l.length c/\(t=true->c=l.length/\c<cP)/\
   (l=[]\/∃row e d,lk x.s.h i=some (.inl (row,e,1))/\iD x d l (row.drop off)/\ ((c<cP/\l.length<=c)\/(cP<=c/\e=d+1/\0<d/\off=cJ c*d/\off+l.length*d<=row.length)))
 |.e9,v=>v=.map none|.map k,v=>v.oneCell'=true/\Ref x k 0 fun o=>∃i,o=some i/\v=.map (some i)
 |.fn f a b,v=>∃j m,v=.func f ⟨j⟩ ⟨m⟩/\c7 x a j/\a.length=j.length/\c7 x b m/\b.length=m.length|.j7,v=>v=.nilFunc
 |.j9,v=>v=.nilIface|.agg l,v=>∃g,v=.agg ⟨g⟩/\c7 x l g/\l.length=g.length/\I5 l=true
 |.a7 l,v=>∃g,v=.tuple ⟨g⟩/\c7 x l g/\l.length=g.length
def c7(x:Cx):X U->X I->Prop
 |[],_=>True|u::b,a=>match a with
  |[]=>False|v::a=>aD x u v/\c7 x b a
def iD(x:Cx)(a:Nat):X (X U)->X I->Prop
 |[],_=>True|c::d,b=>c.length=a/\I5 c=true/\c7 x c b/\iD x a d (b.drop a)
end
mutual
def aS(n:Nat):U->Prop
 |.ptr k _ _=>k<n|.sl k _ _ _=>k<n
 |.vl k _ _ _=>k<n|.map k=>k<n
 |.b4 l=>aG n l|.O _ l=>lL n l
 |.fn _ a b=>aG n a/\aG n b|.agg l=>aG n l
 |.a7 l=>aG n l|_=>True
def aG(n:Nat):X U->Prop
 |[]=>True|u::a=>aS n u/\aG n a
def lL(n:Nat):X (X U)->Prop
 |[]=>True|c::a=>aG n c/\lL n a
end
def JC(x:Cx):∀(l:X U)(b:X I),c7 x l b↔∀(i:Nat)(u:U),l[i]? = some u->∃v,b[i]? = some v/\aD x u v
 |[],b=>by simp[c7]
 |u::e,[]=>by simp only[c7,false_iff];intro h;obtain⟨v,f,_⟩:=h 0 u rfl;simp at f
 |u::e,v::b=>by
  simp only[c7,JC x e b];constructor;rintro⟨c,d⟩ i w a;cases i with
  |zero=>simp at a;subst a;exact⟨v,rfl,c⟩|succ i=>simp at a;simpa using d i w a
  intro h;refine⟨?_,fun i w a=>by simpa using h (i+1) w (by simpa using a)⟩;obtain⟨g,c,d⟩:=h 0 u rfl;simp at c;subst c;exact d
def DS(n:Nat):∀l:X U,aG n l↔∀u∈l,aS n u
 |[]=>by simp[aG]
 |u::a=>by simp[aG,DS n a]
def Mp(n:Nat):∀l:X (X U),lL n l↔∀c∈l,aG n c
 |[]=>by simp[lL]
 |u::a=>by simp[lL,Mp n a]
structure Mo(n:Nat)(x y:Cx):Prop where
 ref:∀k,k<n->k<x.Y.nx->k<y.Y.nx/\∀b',gt y.Y.h k=some b'->∃b,gt x.Y.h k=some b/\b.st<=b'.st/\(b.st=b'.st->y.Z k=x.Z k/\∀l e sz st,b=.vec l e sz st->∃l',b'=.vec l' e sz st)
 l9:∀i row e,lk x.s.h i=some (.inl (row,e,1))->lk y.s.h i=some (.inl (row,e,1))
variable{n:Nat}{x:Cx}{y:Cx}
def Mo.pL(h:Mo n x y){k st:Nat}{p:A Nat->Prop}(o:k<n)(q:Ref x k st p):Ref y k st p:=by
 obtain⟨l,m⟩:=q;obtain⟨g1,g2⟩:=h.ref k o l;refine⟨g1,fun a c=>?_⟩;obtain⟨b,d,f,g⟩:=g2 a c;obtain⟨i,j⟩:=m b d;refine⟨eb i f,fun e=>?_⟩;have:b.st=a.st:=by omega
 rw[(g this).1];exact j ag
mutual
def aD.mono{n:Nat}{x y:Cx}(h:Mo n x y):(u:U)->(v:I)->aS n u->aD x u v->aD y u v
 |.L2,v,_,_=>by simp[aD]
 |.bool b,v,_,d=>by simpa[aD]using d
 |.int k z,v,_,d=>by simpa[aD]using d
 |.str l,v,_,d=>by simpa[aD]using d
 |.b8,v,_,d=>by simpa[aD]using d
 |.ptr k st off,v,g,d=>by simp only[aD]at*;exact⟨d.1,h.pL (by simpa[aS]using g) d.2⟩
 |.b4 l,v,g,d=>by simp only[aD]at*;obtain⟨i,off,row,e,j,o,p,s⟩:=d;exact⟨i,off,row,e,j,h.l9 _ _ _ o,c7.mono h l _ (by simpa[aS]using g) p,s⟩
 |.J,v,_,d=>by simpa[aD]using d
 |.sl k off m c,v,g,d=>by simp only[aD]at*;exact⟨d.1,h.pL (by simpa[aS]using g) d.2⟩
 |.vl k st off m,v,g,d=>by
  simp only[aD]at*;obtain⟨P,j,o⟩:=d;obtain⟨g1,g2⟩:=h.ref k (by simpa[aS]using g) j;refine⟨P,g1,fun B C=>?_⟩;obtain⟨b,E,F,G⟩:=g2 B C;obtain⟨H,J⟩:=o b E;refine⟨eb H F,fun e=>?_⟩;have K:b.st=B.st:=by omega
  obtain⟨l,D,w,L,M⟩:=J ag;obtain⟨N,q⟩:=G K;obtain⟨R,r⟩:=q _ _ _ _ L;rw[N];exact⟨R,D,w,r,M⟩
 |.O t l,v,g,d=>by simp only[aD]at*;obtain d |⟨i,off,c,j,o,p⟩:=d;exact .inl d;refine .inr ⟨i,off,c,j,o,?_⟩;obtain p |⟨row,e,w,g1,g2,O⟩:=p;exact .inl p;exact .inr ⟨row,e,w,h.l9 _ _ _ g1,iD.mono h l _ (by simpa[aS]using g) g2,O⟩
 |.e9,v,_,d=>by simpa[aD]using d
 |.map k,v,g,d=>by simp only[aD]at*;exact⟨d.1,h.pL (by simpa[aS]using g) d.2⟩
 |.fn f a b,v,g,d=>by simp only[aD]at*;obtain⟨S,T,j,o,p,s,Q⟩:=d;simp only[aS]at g;exact⟨S,T,j,c7.mono h a _ g.1 o,p,c7.mono h b _ g.2 s,Q⟩
 |.j7,v,_,d=>by simpa[aD]using d
 |.j9,v,_,d=>by simpa[aD]using d
 |.agg l,v,g,d=>by simp only[aD]at*;obtain⟨A,j,o,p⟩:=d;exact⟨A,j,c7.mono h l _ (by simpa[aS]using g) o,p⟩
 |.a7 l,v,g,d=>by simp only[aD]at*;obtain⟨A,j,o,p⟩:=d;exact⟨A,j,c7.mono h l _ (by simpa[aS]using g) o,p⟩
def c7.mono{n:Nat}{x y:Cx}(h:Mo n x y):(l:X U)->(b:X I)->aG n l->c7 x l b->c7 y l b
 |[],_,_,_=>by simp[c7]
 |u::d,[],_,a=>by simp[c7]at a
 |u::d,v::b,c,a=>by simp only[c7,aG]at*;exact⟨aD.mono h u v c.1 a.1,c7.mono h d b c.2 a.2⟩
def iD.mono{n e:Nat}{x y:Cx}(h:Mo n x y):(l:X (X U))->(b:X I)->lL n l->iD x e l b->iD y e l b
 |[],_,_,_=>by simp[iD]
 |c::f,b,d,a=>by simp only[iD,lL]at*;exact⟨a.1,a.2.1,c7.mono h c b d.1 a.2.2.1,iD.mono h f _ d.2 a.2.2.2⟩
end
mutual
def aD.L5{x:Cx}:(u:U)->(v:I)->aD x u v->aS x.Y.nx u
 |.ptr k st off,v,d=>by simp only[aD,aS]at*;exact d.2.1
 |.sl k off m c,v,d=>by simp only[aD,aS]at*;exact d.2.1
 |.vl k st off m,v,d=>by simp only[aD,aS]at*;exact d.2.1
 |.map k,v,d=>by simp only[aD,aS]at*;exact d.2.1
 |.b4 l,v,d=>by simp only[aD,aS]at*;obtain⟨i,off,row,e,j,g,h,_⟩:=d;exact c7.L5 l _ h
 |.O t l,v,d=>by simp only[aD,aS]at*;obtain⟨rfl,_⟩|⟨i,off,c,j,g,h⟩:=d;simp[lL];obtain rfl |⟨row,e,sz,g1,g2,_⟩:=h;simp[lL];exact iD.L5 l _ g2
 |.fn f a b,v,d=>by simp only[aD,aS]at*;obtain⟨r,s,j,g,h,o,q⟩:=d;exact⟨c7.L5 a _ g,c7.L5 b _ o⟩
 |.agg l,v,d=>by simp only[aD,aS]at*;obtain⟨p,j,g,h⟩:=d;exact c7.L5 l _ g
 |.a7 l,v,d=>by simp only[aD,aS]at*;obtain⟨p,j,g,h⟩:=d;exact c7.L5 l _ g
 |.L2,_,_=>by simp[aS]
 |.bool _,_,_=>by simp[aS]
 |.int _ _,_,_=>by simp[aS]
 |.str _,_,_=>by simp[aS]
 |.b8,_,_=>by simp[aS]
 |.J,_,_=>by simp[aS]
 |.e9,_,_=>by simp[aS]
 |.j7,_,_=>by simp[aS]
 |.j9,_,_=>by simp[aS]
def c7.L5{x:Cx}:(l:X U)->(b:X I)->c7 x l b->aG x.Y.nx l
 |[],_,_=>by simp[aG]
 |u::c,[],a=>by simp[c7]at a
 |u::c,v::b,a=>by simp only[c7,aG]at*;exact⟨aD.L5 u v a.1,c7.L5 c b a.2⟩
def iD.L5{x:Cx}{sz:Nat}:(l:X (X U))->(a:X I)->iD x sz l a->lL x.Y.nx l
 |[],_,_=>by simp[lL]
 |c::d,a,b=>by simp only[iD,lL]at*;exact⟨c7.L5 c a b.2.2.1,iD.L5 d _ b.2.2.2⟩
end
def aZ(x:Cx)(l:X U)(a:X I):Prop:=c7 x l a/\l.length=a.length
variable{l:X U}{vs:X I}{u:U}
def aZ.get(h:aZ x l vs){i:Nat}(a:l[i]? = some u):∃v,vs[i]? = some v/\aD x u v:=(JC x l vs).1 h.1 i u a
def aZ.mk'(a:l.length=vs.length)(h:∀(i:Nat)(u:U),l[i]? = some u->∃v,vs[i]? = some v/\aD x u v):aZ x l vs:=⟨(JC x l vs).2 h,a⟩
def aZ.nil(x:Cx):aZ x [] []:=⟨by simp[c7],rfl⟩
def aZ.cons{v:I}(h:aD x u v)(a:aZ x l vs):aZ x (u::l) (v::vs):=⟨by simp[c7,h,a.1],by simp[a.2]⟩
def aZ.inv(h:aZ x (u::l) vs):∃v c,vs=v::c/\aD x u v/\aZ x l c:=by obtain⟨a,b⟩:=h;obtain _|⟨v,vs⟩:=vs;simp at b;simp only[c7]at a;exact⟨v,vs,rfl,a.1,a.2,by simpa using b⟩
def aZ.L7(h:aZ x [] vs):vs=[]:=by have:=h.2;simpa using this.symm
def aZ.append{a b:X U}{c d:X I}(h:aZ x a c)(e:aZ x b d):aZ x (a++b) (c++d):=by induction a generalizing c with|nil=>rw[h.L7];exact e|cons u a i=>obtain⟨v,vs,rfl,f,g⟩:=h.inv;exact aZ.cons f (i g)
def aZ.drop{x:Cx}{a:X U}{c:X I}(h:aZ x a c)(n:Nat):aZ x (a.drop n) (c.drop n):=by refine aZ.mk' (by simp[h.2]) fun i u b=>?_;rw[na]at b ⊢;exact h.get b
def aZ.take{x:Cx}{a:X U}{c:X I}(h:aZ x a c)(n:Nat):aZ x (a.take n) (c.take n):=by refine aZ.mk' (by simp[h.2]) fun i u b=>?_;rw[l8]at b ⊢;split at b;rename_i d;simp only[d,It];exact h.get b;cases b
def aZ.set{x:Cx}{a:X U}{d:X I}(h:aZ x a d)(n:Nat){u:U}{v:I}(g:aD x u v):aZ x (a.set n u) (d.set n v):=by refine aZ.mk' (by simp[h.2]) fun i w b=>?_;rw[mi]at b ⊢;split at b;split at b;cases b;rename_i f c;subst f;rw[h.2]at c;simp[c,g];cases b;rename_i e;simp only[e,LX];exact h.get b
def aZ.mono{n:Nat}{x y:Cx}(h:Mo n x y){l:X U}{vs:X I}(b:aG n l)(a:aZ x l vs):aZ y l vs:=⟨c7.mono h l vs b a.1,a.2⟩
def c7.kP(h:c7 x l vs):aZ x l (vs.take l.length):=by
 refine aZ.mk' ?_ fun i u a=>?_;obtain c |KY:=XL vs.length l.length
 have a:l[vs.length]? = some l[vs.length]:=by simp[c]
 obtain⟨v,b,_⟩:=(JC x l vs).1 h _ _ a;simp at b;simp;omega;obtain⟨v,b,d⟩:=(JC x l vs).1 h i u a;have:i<l.length:=(zG.1 a).1;exact⟨v,by rw[l8];simp[this,b],d⟩
def c7.len(h:c7 x l vs):l.length<=vs.length:=by have:=h.kP.2;rw[Wz]at this;omega
def c7.drop{x:Cx}{l:X U}{vs:X I}(h:c7 x l vs)(n:Nat):c7 x (l.drop n) (vs.drop n):=by rw[JC]at*;intro i u a;rw[na]at a ⊢;exact h _ _ a
def rX(x:Cx)(a:X ME)(vs:X MapEntry):Prop:=a.length=vs.length/\∀(i:Nat)(e:ME),a[i]? = some e->∃v:MapEntry,vs[i]? = some v/\aD x e.key v.key/\aD x e.val v.val/\v.born=e.born
def o8(x:Cx)(k:Nat):B->Prop
 |.row l e=>I5 l=true/\∃i b,x.Z k=some i/\lk x.s.h i=some (.inl (b,e,0))/\aZ x l b|.vec l e c _=>I5 l=true/\0<c/\(l=[]/\x.Z k=none\/∃i b,x.Z k=some i/\lk x.s.h i=some (.inl (b,e,c+2))/\aZ x l b)
 |.map f d=>∃i a,x.Z k=some i/\lk x.s.h i=some (.inr (a,d))/\rX x f a
structure jB(x:Cx):Prop where
 ok:∀k b,gt x.Y.h k=some b->k<x.Y.nx/\o8 x k b
 inj:∀k k' b b' i,gt x.Y.h k=some b->gt x.Y.h k'=some b'->x.Z k=some i->x.Z k'=some i->k=k'
 bd:∀i b,lk x.s.h i=some b->i<x.s.nx
def Fr(F:Nat->m9->Prop)(x:Cx):Prop:=∀i b,F i b->lk x.s.h i=some b/\∀k c,gt x.Y.h k=some c->x.Z k≠some i
def Ke(n:Nat)(x y:Cx):Prop:=∀u v,aS n u->aD x u v->aD y u v
def Ke.refl(n:Nat)(x:Cx):Ke n x x:=fun _ _ _ h=>h
def Ke.trans{z:Cx}(h:Ke n x y)(h':Ke n y z):Ke n x z:=fun u v a b=>h' u v a (h u v a b)
mutual
def aS.le{n k:Nat}(h:n<=k):(u:U)->aS n u->aS k u
 |.ptr a _ _,c=>by simp only[aS]at*;omega
 |.sl a _ _ _,c=>by simp only[aS]at*;omega
 |.vl a _ _ _,c=>by simp only[aS]at*;omega
 |.map a,c=>by simp only[aS]at*;omega
 |.b4 l,c=>by simp only[aS]at*;exact aG.le h l c
 |.O t l,c=>by simp only[aS]at*;exact lL.le h l c
 |.fn f a b,c=>by simp only[aS]at*;exact⟨aG.le h a c.1,aG.le h b c.2⟩
 |.agg l,c=>by simp only[aS]at*;exact aG.le h l c
 |.a7 l,c=>by simp only[aS]at*;exact aG.le h l c
 |.L2,_=>by simp[aS]
 |.bool _,_=>by simp[aS]
 |.int _ _,_=>by simp[aS]
 |.str _,_=>by simp[aS]
 |.b8,_=>by simp[aS]
 |.J,_=>by simp[aS]
 |.e9,_=>by simp[aS]
 |.j7,_=>by simp[aS]
 |.j9,_=>by simp[aS]
def aG.le{n k:Nat}(h:n<=k):(l:X U)->aG n l->aG k l
 |[],_=>by simp[aG]
 |u::b,a=>by simp only[aG]at*;exact⟨aS.le h u a.1,aG.le h b a.2⟩
def lL.le{n k:Nat}(h:n<=k):(l:X (X U))->lL n l->lL k l
 |[],_=>by simp[lL]
 |u::b,a=>by simp only[lL]at*;exact⟨aG.le h u a.1,lL.le h b a.2⟩
end
def Ke.le{n k:Nat}{x y:Cx}(h:Ke k x y)(b:n<=k):Ke n x y:=fun u v a c=>h u v (aS.le b u a) c
def Mo.ke(h:Mo n x y):Ke n x y:=fun u v a b=>aD.mono h u v a b
def Ke.E(h:Ke n x y)(e:aG n l)(a:aZ x l vs):aZ y l vs :=
 aZ.mk' a.2 fun i u b=>by obtain⟨v,c,d⟩:=a.get b;exact⟨v,c,h u v ((DS n l).1 e u (zX b)) d⟩
def aZ.L5{x:Cx}{l:X U}{vs:X I}(a:aZ x l vs):aG x.Y.nx l:=c7.L5 l vs a.1
mutual
def cK:U->A I
 |.bool b=>some (.bool b)|.int k n=>some (.int k n)
 |.str s=>some (.string ⟨⟨s⟩⟩)|.b8=>some (.pointer none)
 |.J=>some (.slice none 0 0)|.e9=>some (.map none)
 |.j7=>some .nilFunc|.j9=>some .nilIface
 |.agg l=>cond (I5 l) (match eE l with
  |some vs=>some (.agg ⟨vs⟩)|none=>none) none
 |_=>none
def eE:X U->A (X I)
 |[]=>some []|u::l=>match cK u with
  |some v=>(match eE l with
   |some vs=>some (v::vs)|none=>none)
  |none=>none
end
mutual
def jL:I->A U
 |.bool b=>some (.bool b)|.int k n=>some (.int k n)
 |.string s=>some (.str s.data.toList)|.pointer none=>some .b8
 |.slice none n c=>match n,c with
  |0,0=>some .J|_,_=>none
 |.map none=>some .e9|.nilFunc=>some .j7
 |.nilIface=>some .j9|.agg ⟨l⟩=>match qN l with
  |some a=>cond (I5 a) (some<|.agg a) none|none=>none
 |_=>none
def qN:X I->A (X U)
 |[]=>some []|v::l=>match jL v with
  |some u=>(match qN l with
   |some a=>some (u::a)|none=>none)
  |none=>none
end
def xB:U->A (X U)
 |.L2=>none|.a7 _=>none
 |.agg l=>some l|u=>some [u]
def c5(a:X U):Qo->A U
 |.tmp t=>nth a t|.const v=>jL v
 |.func f=>some (.fn (.func f) [] [])|.global _=>none
def pI(a:X U):X Qo->A (X U)
 |[]=>some []|x::l=>match c5 a x with
  |some v=>(match pI a l with
   |some r=>some (v::r)|none=>none)
  |none=>none
def B6(a:X U):X (Nat×Qo)->A (X<|Nat×U)
 |[]=>some []|(i,x)::l=>match c5 a x with
  |some v=>(match B6 a l with
   |some r=>some ((i,v)::r)|none=>none)
  |none=>none
def CD(a:X U):A Qo->A (A I)
 |none=>some none|some x=>match c5 a x with
  |some (.int k n)=>some (some<|.int k n)|_=>none
def live(Y:Sg)(k st:Nat):Rl:=match gt Y.h k with
 |some b=>Nat.beq b.st st|none=>false
def cellsOf(Y:Sg)(k st:Nat):A (X U):=match gt Y.h k with
 |some (.row l _)=>cond (Nat.beq 0 st) (some l) none|some (.vec l _ _ a)=>cond (Nat.beq a st) (some l) none
 |_=>none
def rowOf(Y:Sg)(k:Nat):A (X U):=match gt Y.h k with
 |some (.row l _)=>some l|_=>none
def oR(Y:Sg)(k st:Nat):A (X U×TypeId×Nat):=match gt Y.h k with
 |some (.vec l e b a)=>cond (Nat.beq a st) (some (l,e,b)) none|_=>none
def P4(Y:Sg)(k:Nat)(l:X U):A Sg:=match gt Y.h k with
 |some (.row _ e)=>some ⟨ug Y.h k<|.row l e,Y.nx⟩|some (.vec _ e a st)=>some ⟨ug Y.h k<|.vec l e a st,Y.nx⟩
 |_=>none
def lW(l:X U)(off n:Nat):A (X U):=if off+n<=l.length then some ((l.drop off).take n)else none
def rV(l:X U)(off:Nat)(vs:X U):A (X U):=if off+vs.length<=l.length then some (l.take off++(vs++l.drop (off+vs.length)))else none
def yu(T:Tb)(t:TypeId)(a:X U)(off:Nat):A U :=
 match T.G4 t with
 |none=>none|some d=>cond (rH d) (match cC T t with
   |some n=>some (.agg<|(a.drop off).take n)|none=>none) (nth a off)
def rY(place:Nat->A (Nat×Nat))(cells:X U):X (Nat×U)->A (X U)
 |[]=>some cells|(i,v)::a=>match place i with
  |none=>none|some (off,size)=>match xB v with
   |none=>none|some b=>cond (Nat.beq b.length size) (match rV cells off b with
    |some c=>rY place c a|none=>none) none
def Ll(T:Tb)(t:TypeId)(c:X (Nat×U)):A U :=
 match T.inf t with
 |none=>none|some (_,_,z)=>match qN z.cells.toList with
  |none=>none|some d=>match T.G4 t with
   |some (.struct b)=>cond (J6 T b.toList) (match rY (ND T b.toList) d c with
    |some a=>cond (I5 a) (some<|.agg a) none|none=>none) none
   |some (.array _ e)=>(match cC T e with
    |none=>none|some n=>match rY (fun i=>some (i*n,n)) d c with
     |some a=>cond (I5 a) (some<|.agg a) none|none=>none)
   |_=>none
def g1(f:I->A I)(u:U):A U:=match cK u with
 |some v=>(match f v with
  |some r=>jL r|none=>none)
 |none=>none
def g2(f:I->I->A I)(a b:U):A U:=match cK a with
 |some x=>(match cK b with
  |some y=>(match f x y with
   |some r=>jL r|none=>none)
  |none=>none)
 |none=>none
def gS(Y:Sg):U->Nat
 |.ptr k st _=>cond (live Y k st) 1 0|.b4 _=>1
 |.sl k _ _ _=>cond (live Y k 0) 2 0|.vl k st _ (_+1)=>cond (live Y k st) 2 0
 |.O _ (_::_)=>2|.map k=>cond (live Y k 0) 3 0
 |_=>0
def NC:U->Nat
 |.b8=>1|.J=>2
 |.e9=>3|_=>0
def AZ(T:Tb)(t:TypeId):Nat:=match T.G4 t with
 |some (.pointer _)=>1|some (.slice _)=>2
 |some (.map _ _)=>3|_=>0
def G9:BinOp->A U
 |.eql=>some (.bool false)|.neq=>some (.bool true)
 |_=>none
def Lc(T:Tb)(Y:Sg)(op:BinOp)(t:TypeId)(x y:U):A U :=
 cond (Nat.beq (AZ T t) 0) none (cond (cond (Nat.beq (gS Y x)<|AZ T t) (Nat.beq (NC y)<|AZ T t)<|cond (Nat.beq (NC x)<|AZ T t) (Nat.beq (gS Y y)<|AZ T t) false) (G9 op) none)
def M3(T:Tb)(Y:Sg)(op:BinOp)(t:TypeId)(x y:U):A U:=match g2 (u6 T op t) x y with
 |some r=>some r|none=>Lc T Y op t x y
def Tn(T:Tb)(Y:Sg)(st:TypeId)(x:U)(f:Nat):A U :=
 match T.G4 st with
 |some (.struct b)=>match nth b.toList f with
  |some a=>(match cC T a.type with
   |some (_+1)=>match x with
    |.ptr k s off=>cond (live Y k s) (some<|.ptr k s<|off+a.offset) none|.b4 l=>some (.b4<|l.drop a.offset)
    |_=>none
   |_=>none)
  |none=>none
 |_=>none
def U?(T:Tb)(st:TypeId)(x:U)(f:Nat):A U :=
 match T.G4 st with
 |some (.struct c)=>match nth c.toList f with
  |some a=>(match x with
   |.agg b=>yu T a.type b a.offset|_=>none)
  |none=>none
 |_=>none
def DP(T:Tb)(Y:Sg)(t:TypeId)(x ix:U):A U :=
 match ix with
 |.int _ i=>match T.G4 t with
  |some (.slice e)=>(match cC T e with
   |some a=>match x with
    |.sl k off n _=>cond (live Y k 0) (if 0<=i/\i<n then some (.ptr k 0<|off+i.toNat*a)else none) none|.vl k st off n=>(match oR Y k st with
     |some (l,_,b)=>cond (Nat.beq b a) (if 0<=i/\i<n/\l≠[]then some (.ptr k st<|off*a+i.toNat*a)else none) none|none=>none)
    |.O _ l=>if 0<=i/\i<l.length then(match l[i.toNat]? with
     |some c=>cond (Nat.beq c.length a) (some<|.b4 c) none|none=>none)else none
    |_=>none
   |none=>none)
  |some (.array n e)=>(match cC T e with
   |some a=>match x with
    |.ptr k st off=>cond (live Y k st) (if 0<=i/\i<n then some (.ptr k st<|off+i.toNat*a)else none) none|.b4 l=>if 0<=i/\i<n then some (.b4<|l.drop<|i.toNat*a)else none
    |_=>none
   |none=>none)
  |_=>none
 |_=>none
def uk(T:Tb)(t:TypeId)(x ix:U):A U :=
 match x with
 |.agg a=>(match ix with
  |.int _ i=>match T.G4 t with
   |some (.array n e)=>(if 0<=i/\i<n then(match cC T e with
    |some b=>yu T e a (i.toNat*b)|none=>none)else none)
   |_=>none
  |_=>none)
 |_=>g2 (Aq T t) x ix
def pz(x:U)(i:Nat):A U:=match x with
 |.a7 vs=>nth vs i|_=>none
def wP(T:Tb)(Y:Sg)(t:TypeId)(x:U):A U:=match T.G4 t with
 |some (.slice _)=>(match x with
  |.J=>some (.int .i64 0)|.sl k _ n _=>cond (live Y k 0) (some<|.int .i64 n) none
  |.vl k st _ n=>cond (live Y k st) (some<|.int .i64 n) none|.O _ l=>some (.int .i64 l.length)
  |_=>none)
 |some .string=>(match x with
  |.str s=>some (.int .i64 s.length)|_=>none)
 |some (.array n _)=>(match x with
  |.L2=>none|_=>some<|.int .i64 n)
 |_=>none
def capU(T:Tb)(Y:Sg)(t:TypeId)(x:U):A U:=match T.G4 t with
 |some (.slice _)=>(match x with
  |.J=>some (.int .i64 0)|.sl k _ _ c=>cond (live Y k 0) (some<|.int .i64 c) none
  |_=>none)
 |_=>none
def uV{a:Type}(l:X a)(c b:Nat):X a:=(l.take b).drop c
def TR(T:Tb)(Y:Sg)(t:TypeId)(x:U)(f d:A I):A U :=
 match T.G4 t with
 |some (.slice e)=>(match cC T e with
  |some b=>match x with
   |.vl k st off n=>(match oR Y k st with
    |some (r,_,g)=>cond (Nat.beq g b) (match nQ n n f d with
      |some (l,h,_)=>if(off+n)*b<=r.length then some (.vl k st (off+l)<|h-l)else none|none=>none) none
    |none=>none)
   |.O t l=>if(l.all fun c=>Nat.beq c.length b)=true then(match nQ l.length l.length f d with
    |some (a,h,_)=>some (.O (cond t (Nat.beq h l.length) false)<|uV l a h)|none=>none)else none
   |_=>none
  |none=>none)
 |_=>none
def iQ(T:Tb)(Y:Sg)(e:X U)(op:Op):A U :=
 match op with
 |.move x=>c5 e x|.assign x=>c5 e x
 |.pick c a b=>(match c5 e c with
  |some (.bool true)=>c5 e a|some (.bool false)=>c5 e b
  |_=>none)
 |.build t m=>(match B6 e m.toList with
  |some o=>Ll T t o|none=>none)
 |.nilCheck x=>(match c5 e x with
  |some (.ptr k st off)=>cond (live Y k st) (some<|.ptr k st off) none|some (.b4 l)=>some (.b4 l)
  |some (.fn (.func f) a b)=>some (.fn (.func f) a b)|_=>none)
 |.binOp op t x y _=>(match c5 e x,c5 e y with
  |some a,some b=>M3 T Y op t a b|_,_=>none)
 |.unOp op _ x=>(match c5 e x with
  |some a=>g1 (T5 op) a|none=>none)
 |.convert s d x=>(match c5 e x with
  |some a=>g1 (P6 T s d) a|none=>none)
 |.makeFunc fn first cap=>(match pI e first.toList,pI e cap.toList with
  |some a,some b=>some (.fn fn a b)|_,_=>none)
 |.slice t x j g none=>(match c5 e x,CD e j,CD e g with
  |some a,some l,some h=>TR T Y t a l h|_,_,_=>none)
 |.fieldAddr t x f=>(match c5 e x with
  |some a=>Tn T Y t a f|none=>none)
 |.field t x f=>(match c5 e x with
  |some a=>U? T t a f|none=>none)
 |.indexAddr t x i=>(match c5 e x,c5 e i with
  |some a,some b=>DP T Y t a b|_,_=>none)
 |.index t x i=>(match c5 e x,c5 e i with
  |some a,some b=>uk T t a b|_,_=>none)
 |.extract x i=>(match c5 e x with
  |some a=>pz a i|none=>none)
 |.call c=>(match c.callee with
  |.builtin .len=>(match pI e c.args.toList,c.argTypes.toList with
   |some [x],t::_=>wP T Y t x|_,_=>none)
  |.builtin .max=>(match pI e c.args.toList with
   |some (x::l)=>(match cK x,eE l with
    |some a,some b=>(match B0 Ah a b with
     |some r=>jL r|none=>none)
    |_,_=>none)
   |_=>none)
  |.builtin .min=>(match pI e c.args.toList with
   |some (x::l)=>(match cK x,eE l with
    |some a,some b=>(match B0 TP a b with
     |some r=>jL r|none=>none)
    |_,_=>none)
   |_=>none)
  |_=>none)
 |_=>none
def J2(T:Tb)(a:TypeId)(k:I):X ME->Nat->A (A<|Nat×U)
 |[],_=>some none|e::b,i=>match cK e.key with
  |none=>none|some c=>match eqv T 50 a k c with
   |some true=>some (some (i,e.val))|some false=>J2 T a k b (i+1)
   |none=>none
def GX(T:Tb)(t:TypeId)(l:X U)(off:Nat):A U:=match T.G4 t with
 |none=>none|some d=>cond (rH d) (match cC T t with
   |some n=>(match lW l off n with
    |some a=>some (.agg a)|none=>none)
   |none=>none) (nth l off)
def qR(T:Tb)(Y:Sg)(b:X U)(op:Op):A U :=
 match op with
 |.load t x=>(match c5 b x with
  |some (.ptr k st off)=>(match cellsOf Y k st with
   |some l=>GX T t l off|none=>none)
  |some (.b4 l)=>GX T t l 0|_=>none)
 |.lookup t x k ok=>(match T.G4 t,c5 b x,c5 b k with
  |some (.map c f),some m,some g=>(match cK g with
   |none=>none|some d=>cond (xW T 50 c d)
    (match (match m with
      |.e9=>some []|.map r=>(match gt Y.h r with
       |some (.map a _)=>some a|_=>none)
      |_=>none)with
     |none=>none|some a=>match J2 T c d a 0 with
      |none=>none|some (some (_,v))=>some (cond ok (.a7 [v,.bool true]) v)
      |some none=>match T.inf f with
       |some (_,_,z)=>(match jL z with
        |some e=>some (cond ok (.a7 [e,.bool false]) e)|none=>none)
       |none=>none) none)
  |_,_,_=>none)
 |_=>none
def Pt:U->U
 |.J=>.O false []|.O _ l=>.O false l
 |u=>u
def xR:X U->X U
 |[]=>[]|u::l=>Pt u::xR l
def cc(Y:Sg)(b:B):Sg:=⟨(Y.nx,b)::Y.h,Y.nx+1⟩
def wM(Y:Sg)(a:Nat)(x:U):A (Nat×X U):=match x with
 |.J=>some (0,[])|.O _ l=>if(l.all fun c=>Nat.beq c.length a)=true then some (l.length,l.flatten)else none
 |.sl k off n _=>(match rowOf Y k with
  |some l=>(match lW l off (n*a)with
   |some b=>some (n,xR b)|none=>none)
  |none=>none)
 |.vl k st off n=>(match oR Y k st with
  |some (l,_,d)=>cond (Nat.beq d a) (match lW l (off*a) (n*a)with
   |some b=>some (n,b)|none=>none) none
  |none=>none)
 |_=>none
def DO(T:Tb)(Y:Sg)(t i:TypeId)(s x:U):A (U×Sg):=
 match T.G4 t,T.G4 i with
 |some (.slice e),some (.slice _)=>(match T.inf e with
  |some (b+1,c,z)=>cond (Nat.beq z.cells.toList.length<|b+1) (match wM Y (b+1) x with
   |none=>none|some (k,new)=>match s with
    |.J=>if k*c<=140737488355328/\k<=140737488355328 then some (.vl Y.nx 0 0 k,cc Y<|.vec new e (b+1) 0)else none|.O true []=>if 0<k/\k*c<=140737488355328/\k<=140737488355328 then some (.vl Y.nx 0 0 k,cc Y<|.vec new e (b+1) 0)else none
    |.sl a _ 0 0=>(match rowOf Y a with
     |none=>none|some _=>if k*c<=140737488355328/\k<=140737488355328 then some (.vl Y.nx 0 0 k,cc Y<|.vec new e (b+1) 0)else none)
    |.vl a st off n=>(match gt Y.h a with
     |some (.vec l f g d)=>cond (Nat.beq d st) (cond (Nat.beq f e) (cond (Nat.beq g<|b+1) (match lW l (off*(b+1)) (n*(b+1))with
      |none=>none|some p=>if(n+k)*c<=140737488355328/\n+k<=140737488355328/\(0<k/\(off=0\/0<n)\/off=0/\n*(b+1)=l.length)then some (.vl a (st+1) 0<|n+k,⟨ug Y.h a<|.vec (p++new) e (b+1)<|st+1,Y.nx⟩)else none) none) none) none
     |_=>none)
    |_=>none) none
  |_=>none)
 |_,_=>none
def gi(T:Tb)(Y:Sg)(t a:TypeId)(s x:U):A (U×Sg):=match DO T Y t a s x with
 |some r=>some r|none=>none
def copyU(T:Tb)(Y:Sg)(t:TypeId)(d x:U):A (U×Sg):=
 match T.G4 t with
 |some (.slice e)=>(match cC T e with
  |none=>none|some b=>match wM Y b x with
   |none=>none|some (k,f)=>match d with
    |.sl a off n _=>(match rowOf Y a with
     |some l=>if n=0\/k=0\/b=0 then none else(match rV l off (f.take<|Nat.min k n*b)with
      |some g=>(match P4 Y a g with
       |some c=>some (.int .i64<|Nat.min k n,c)|none=>none)
      |none=>none)
     |none=>none)
    |_=>none)
 |_=>none
def GJ(Y:Sg)(k:Nat)(a:X U):X U:=match gt Y.h k with
 |some (.vec _ _ _ _)=>xR a|_=>a
def Am(T:Tb)(Y:Sg)(t:TypeId)(p u:U):A (U×Sg):=
 match p with
 |.ptr k st off=>(match cC T t with
  |none=>none|some n=>match xB u with
   |none=>none|some a=>cond (Nat.beq a.length n) (cond (I5 a) (match cellsOf Y k st with
    |some l=>(match rV l off (GJ Y k a)with
     |some c=>(match P4 Y k c with
      |some b=>some (.L2,b)|none=>none)
     |none=>none)
    |none=>none) none) none)
 |_=>none
def y3(z:X U)(n:Nat):X U:=(replicate n z).flatten
def Pp(T:Tb)(Y:Sg)(t:TypeId)(l c:U):A (U×Sg):=
 match T.G4 t,l,c with
 |some (.slice e),.int _ a,.int _ b=>(match T.inf e with
  |some (g,d,z)=>(match qN z.cells.toList with
   |some f=>cond (I5 f) (cond (Nat.beq z.cells.toList.length g) (if 0<=a/\a<=b/\d*b.toNat<=281474976710656/\b<=281474976710656 then
     some (.sl Y.nx 0 a.toNat b.toNat,cc Y<|.row (y3 (xR f) b.toNat) e)else none) none) none
   |none=>none)
  |none=>none)
 |_,_,_=>none
def Tu(T:Tb)(Y:Sg)(t:TypeId)(n:Nat)(c:X (Nat×U)):A (U×Sg):=
 match T.G4 t with
 |some (.slice e)=>(match T.inf e with
  |some (a,_,z)=>cond (ble (n*a) 16777216) (cond (ble n 16777216) (cond (Nat.beq z.cells.toList.length a) (match qN z.cells.toList with
   |none=>none|some d=>match rY (fun i=>some (i*a,a)) (y3 d n) c with
    |some b=>cond (I5 b) (some (.sl Y.nx 0 n n,cc Y<|.row b e)) none|none=>none) none) none) none
  |none=>none)
 |_=>none
def MH(a:X ME)(i:Nat)(f:ME->ME):X ME:=match a,i with
 |[],_=>[]|e::a,0=>f e::a
 |e::a,i+1=>e::MH a i f
def Sv(Y:Sg)(r:Nat)(b:X ME)(a:Nat):Sg:=⟨ug Y.h r<|.map b a,Y.nx⟩
def ue(T:Tb)(Y:Sg)(t:TypeId)(m k v:U):A (U×Sg):=
 match T.G4 t,m with
 |some (.map f _),.map r=>(match cK k with
  |none=>none|some b=>cond (xW T 50 f b) (cond (plain b) (match gt Y.h r with
   |some (.map a c)=>(match J2 T f b a 0 with
    |none=>none|some none=>some (.L2,Sv Y r (a++[{ key:=k,val:=v,born:=c }])<|c+1)
    |some (some (i,_))=>match nth a i with
     |none=>none|some e=>match cK e.key with
      |none=>none|some d=>cond (GL 50 d b) (some (.L2,Sv Y r (MH a i fun e=>{ e with val:=v }) c)) none)
   |_=>none) none) none)
 |_,_=>none
def qO(T:Tb)(Y:Sg)(d:X U)(op:Op):A (U×Sg):=
 match op with
 |.alloc e=>(match T.inf e with
  |some (_,_,z)=>(match qN z.cells.toList with
   |some g=>cond (I5 g) (some (.ptr Y.nx 0 0,cc Y<|.row g e)) none|none=>none)
  |none=>none)
 |.box e x=>(match c5 d x with
  |some u=>(match xB u with
   |some f=>cond (I5 f) (some (.ptr Y.nx 0 0,cc Y<|.row f e)) none|none=>none)
  |none=>none)
 |.store t a x=>(match c5 d a,c5 d x with
  |some p,some v=>Am T Y t p v|_,_=>none)
 |.buildSlice t n h=>(match B6 d h.toList with
  |some i=>Tu T Y t n i|none=>none)
 |.makeSlice t l c=>(match c5 d l,c5 d c with
  |some a,some b=>Pp T Y t a b|_,_=>none)
 |.makeMap _ none=>some (.map Y.nx,cc Y<|.map [] 0)|.mapUpdate t m k x=>(match c5 d m,c5 d k,c5 d x with
  |some a,some b,some v=>ue T Y t a b v|_,_,_=>none)
 |.call c=>(match c.callee with
  |.builtin .append=>(match pI d c.args.toList,c.argTypes.toList with
   |some [a,b],[t,j]=>gi T Y t j a b|_,_=>none)
  |_=>none)
 |_=>none
def bH(T:Tb)(Y:Sg)(a:X U)(op:Op):A (U×Sg):=
 match iQ T Y a op with
 |some v=>some (v,Y)|none=>match qR T Y a op with
  |some v=>some (v,Y)|none=>qO T Y a op
def kM(T:Tb)(a:X U)(op:Op):A (FuncId×X U):=
 match op with
 |.call c=>(match c.callee with
  |.value f=>(match c5 a f with
   |some (.fn (.func g) first cap)=>(match T.fn g with
    |some fn=>cond fn.body.isSome (match pI a c.args.toList with
     |some args=>some (g,first++args++cap)|none=>none) none
    |none=>none)
   |_=>none)
  |_=>none)
 |_=>none
end Go.Vx
namespace Go.Vx
open Go Go.Rx
mutual
def DL:(u:U)->(v:I)->cK u=some v->∀(x:Cx)(a:I),aD x u a↔a=v
 |.bool b,v,h,x,a=>by simp only[cK,zA]at h;subst h;simp[aD]
 |.int k n,v,h,x,a=>by simp only[cK,zA]at h;subst h;simp[aD]
 |.str l,v,h,x,a=>by simp only[cK,zA]at h;subst h;simp[aD]
 |.b8,v,h,x,a=>by simp only[cK,zA]at h;subst h;simp[aD]
 |.J,v,h,x,a=>by simp only[cK,zA]at h;subst h;simp[aD]
 |.e9,v,h,x,a=>by simp only[cK,zA]at h;subst h;simp[aD]
 |.j7,v,h,x,a=>by simp only[cK,zA]at h;subst h;simp[aD]
 |.j9,v,h,x,a=>by simp only[cK,zA]at h;subst h;simp[aD]
 |.agg l,v,h,x,a=>by simp only[cK]at h;rcases d:I5 l with _|_;simp[d]at h;simp only[d,zC]at h;rcases e:eE l with _|c;simp[e]at h;simp only[e,zA]at h;subst h;have:=F5 l c e x;simp only[aD,d,X1];constructor;rintro⟨i,rfl,f,g⟩;rw[(this i).1 ⟨f,g⟩];rintro rfl;exact⟨c,rfl,((this c).2 rfl).1,((this c).2 rfl).2⟩
 |.L2,v,h,x,a=>by simp[cK]at h
 |.ptr _ _ _,v,h,x,a=>by simp[cK]at h
 |.b4 _,v,h,x,a=>by simp[cK]at h
 |.sl _ _ _ _,v,h,x,a=>by simp[cK]at h
 |.vl _ _ _ _,v,h,x,a=>by simp[cK]at h
 |.O _ _,v,h,x,a=>by simp[cK]at h
 |.map _,v,h,x,a=>by simp[cK]at h
 |.fn _ _ _,v,h,x,a=>by simp[cK]at h
 |.a7 _,v,h,x,a=>by simp[cK]at h
def F5:(l:X U)->(c:X I)->eE l=some c->∀(x:Cx)(d:X I),aZ x l d↔d=c
 |[],c,h,x,d=>by simp only[eE,zA]at h;subst h;exact⟨fun h=>h.L7,fun h=>h ▸ aZ.nil x⟩
 |u::l,c,h,x,d=>by simp only[eE]at h;rcases a:cK u with _|v;simp[a]at h;rcases b:eE l with _|tZ;simp[a,b]at h;simp only[a,b,zA]at h;subst h;constructor;intro i;obtain⟨w,e,rfl,f,g⟩:=i.inv;rw[(DL u v a x w).1 f,(F5 l tZ b x e).1 g];rintro rfl;exact aZ.cons ((DL u v a x v).2 rfl) ((F5 l tZ b x tZ).2 rfl)
end
mutual
def TX:(v:I)->(u:U)->jL v=some u->plain v=true/\∀x:Cx,aD x u v
 |.bool b,u,h=>by simp only[jL,zA]at h;subst h;simp[aD,plain]
 |.int k n,u,h=>by simp only[jL,zA]at h;subst h;simp[aD,plain]
 |.string s,u,h=>by simp only[jL,zA]at h;subst h;simp[aD,plain]
 |.pointer none,u,h=>by simp only[jL,zA]at h;subst h;simp[aD,plain]
 |.slice none n c,u,h=>by simp only[jL]at h;split at h;simp only[zA]at h;subst h;simp[aD,plain];cases h
 |.map none,u,h=>by simp only[jL,zA]at h;subst h;simp[aD,plain]
 |.nilFunc,u,h=>by simp only[jL,zA]at h;subst h;simp[aD,plain]
 |.nilIface,u,h=>by simp only[jL,zA]at h;subst h;simp[aD,plain]
 |.agg ⟨l⟩,u,h=>by simp only[jL]at h;rcases d:qN l with _|us;simp[d]at h;simp only[d]at h;rcases a:I5 us with _|_;simp[a]at h;simp only[a,zC,zA]at h;subst h;obtain⟨f,e⟩:=Ax l us d;exact⟨by simp[plain,f],fun x=>by simp only[aD];exact⟨l,rfl,(e x).1,(e x).2,a⟩⟩
 |.float _ _,u,h=>by simp[jL]at h
 |.complex _ _ _,u,h=>by simp[jL]at h
 |.pointer (some _),u,h=>by simp[jL]at h
 |.slice (some _) _ _,u,h=>by simp[jL]at h
 |.map (some _),u,h=>by simp[jL]at h
 |.chan _,u,h=>by simp[jL]at h
 |.func _ _ _,u,h=>by simp[jL]at h
 |.iface _ _,u,h=>by simp[jL]at h
 |.tuple _,u,h=>by simp[jL]at h
def Ax:(l:X I)->(b:X U)->qN l=some b->TU l=true/\∀x:Cx,aZ x b l
 |[],b,h=>by simp only[qN,zA]at h;subst h;exact⟨by simp[TU],fun x=>aZ.nil x⟩
 |v::l,b,h=>by simp only[qN]at h;rcases a:jL v with _|u;simp[a]at h;rcases c:qN l with _|Jz;simp[a,c]at h;simp only[a,c,zA]at h;subst h;obtain⟨d,e⟩:=TX v u a;obtain⟨f,g⟩:=Ax l Jz c;exact⟨by simp[TU,d,f],fun x=>aZ.cons (e x)<|g x⟩
end
section
variable{x:Cx}{tm:X U}{a:X I}(b:aZ x tm a)
include b
def iJ{o:Qo}{u:U}(h:c5 tm o=some u):∃v,F8 a o=some v/\aD x u v:=by
 cases o with
 |tmp t=>simp only[c5,jT]at h;obtain⟨v,c,d⟩:=b.get h;exact⟨v,by simp[F8,jT,c],d⟩
 |const v=>obtain⟨c,d⟩:=TX v u h;exact⟨v,by simp[F8,c],d x⟩
 |func f=>simp only[c5,zA]at h;subst h;exact⟨_,rfl,by simp only[aD];exact⟨[],[],rfl,by simp[c7],rfl,by simp[c7],rfl⟩⟩|global g=>simp[c5]at h
def Bp{l:X Qo}{f:X U}(h:pI tm l=some f):∃d,oS a l=some d/\aZ x f d:=by induction l generalizing f with|nil=>simp only[pI,zA]at h;subst h;exact⟨[],rfl,aZ.nil x⟩|cons o l j=>simp only[pI]at h;rcases c:c5 tm o with _|u;simp[c]at h;rcases e:pI tm l with _|Jz;simp[c,e]at h;simp only[c,e,zA]at h;subst h;obtain⟨v,g,k⟩:=iJ b c;obtain⟨d,i,m⟩:=j e;exact⟨v::d,by simp[oS,g,i],aZ.cons k m⟩
inductive Ak(x:Cx):List (Nat×U)->List (Nat×Value)->Prop
 |nil:Ak x [] []
 |cons {i:Nat} {u:U} {v:Value} {l:List (Nat×U)} {m:List (Nat×Value)}:aD x u v->Ak x l m->Ak x ((i,u)::l) ((i,v)::m)
def VK{l:X (Nat×Qo)}{f:X (Nat×U)}(h:B6 tm l=some f):∃d,J3 a l=some d/\Ak x f d:=by induction l generalizing f with|nil=>simp only[B6,zA]at h;subst h;exact⟨[],rfl,.nil⟩|cons o l k=>obtain⟨i,o⟩:=o;simp only[B6]at h;rcases c:c5 tm o with _|u;simp[c]at h;rcases e:B6 tm l with _|Jz;simp[c,e]at h;simp only[c,e,zA]at h;subst h;obtain⟨v,g,m⟩:=iJ b c;obtain⟨d,j,n⟩:=k e;exact⟨(i,v)::d,by simp[J3,g,j],.cons m n⟩
def qrm{o:A Qo}{r:A I}(h:CD tm o=some r):wV a o=some r:=by obtain _|o:=o;simpa[CD,wV]using h;simp only[CD]at h;rcases c:c5 tm o with _|u;simp[c]at h;obtain⟨v,e,d⟩:=iJ b c;cases u with|int k n=>simp only[c,zA]at h;simp only[aD]at d;subst d;subst h;simp[wV,e]|_=>simp[c]at h
end
variable{x:Cx}{u:U}{v:I}
def WM{f:I->A I}{r:U}(h:g1 f u=some r)(d:aD x u v):∃a,f v=some a/\aD x r a:=by unfold g1 at h;rcases b:cK u with _|v0;simp[b]at h;simp only[b]at h;rcases c:f v0 with _|a;simp[c]at h;simp only[c]at h;rw[(DL u v0 b x v).1 d];exact⟨a,c,(TX a r h).2 x⟩
def WJ{f:I->I->A I}{a b r:U}{i j:I}(h:g2 f a b=some r)(k:aD x a i)(l:aD x b j):∃c,f i j=some c/\aD x r c:=by unfold g2 at h;rcases d:cK a with _|v1;simp[d]at h;rcases e:cK b with _|v2;simp[d,e]at h;simp only[d,e]at h;rcases g:f v1 v2 with _|c;simp[g]at h;simp only[g]at h;rw[(DL a v1 d x i).1 k,(DL b v2 e x j).1 l];exact⟨c,g,(TX c r h).2 x⟩
def qsa(d:aD x u v)(e:Y9 u=true):v.oneCell'=true:=by
 cases u with
 |L2=>simp[Y9]at e|agg l=>simp[Y9]at e
 |a7 l=>simp[Y9]at e|ptr k st off=>simp only[aD]at d;exact d.1
 |sl k off n c=>simp only[aD]at d;exact d.1|vl k st off n=>simp only[aD]at d;exact d.1
 |map k=>simp only[aD]at d;exact d.1|b4 l=>simp only[aD]at d;obtain⟨_,_,_,_,rfl,_⟩:=d;rfl
 |O t l=>simp only[aD]at d;obtain⟨_,rfl |⟨_,rfl⟩⟩|⟨_,_,_,rfl,_⟩:=d<;>rfl
 |fn f a b=>simp only[aD]at d;obtain⟨_,_,rfl,_⟩:=d;rfl
 |_=>simp only[aD]at d;subst d;rfl
variable{l:X U}{vs:X I}
def bf(b:aZ x l vs)(a:I5 l=true):xD vs=true:=by induction l generalizing vs with|nil=>rw[b.L7];rfl|cons u l e=>obtain⟨v,h,rfl,c,d⟩:=b.inv;simp only[I5]at a;obtain⟨f,g⟩:=NI a;simp[xD,qsa c f,e d g]
def Ou{a:X U}(c:aD x u v)(h:xB u=some a):aZ x a v.cells.toList/\I5 a=true:=by
 have one:Y9 u=true->a=[u]->aZ x a v.cells.toList/\I5 a=true:=fun b d=>by
  subst d;have:=qsa c b;have e:v.cells= #[v]:=by cases v<;>first |rfl |(simp[Value.oneCell']at this)
  rw[e];exact⟨aZ.cons c<|aZ.nil x,by simp[I5,b]⟩
 cases u with
 |L2=>simp[xB]at h|a7 l=>simp[xB]at h
 |agg l=>simp only[xB,zA]at h;subst h;simp only[aD]at c;obtain⟨vs,rfl,b,d,f⟩:=c;exact⟨⟨b,d⟩,f⟩
 |_=>simp only[xB,zA]at h;exact one rfl h.symm
def zbp(h:aD x u v):aD x (Pt u) v:=by
 cases u with
 |J=>simp only[Pt,aD]at*;exact .inl ⟨trivial,.inl h⟩|O t l=>simp only[Pt,aD]at*;obtain h |⟨i,off,c,a,d,b⟩:=h;exact .inl h;exact .inr ⟨i,off,c,a,(fun h=>by cases h),b⟩
 |_=>exact h
def YD(u:U):Y9 (Pt u)=Y9 u:=by cases u<;>rfl
def RG:∀l:X U,(xR l).length=l.length
 |[]=>rfl|u::l=>by simp[xR,RG l]
def mw:∀l:X U,I5 (xR l)=I5 l
 |[]=>rfl|u::l=>by simp[xR,I5,YD,mw l]
def qxl{x:Cx}:∀{l:X U}{vs:X I},c7 x l vs->c7 x (xR l) vs
 |[],vs,h=>by simp[xR,c7]
 |u::l,[],h=>by simp[c7]at h
 |u::l,v::vs,h=>by simp only[xR,c7]at*;exact⟨zbp h.1,qxl h.2⟩
def Z?(h:aZ x l vs):aZ x (xR l) vs:=⟨qxl h.1,by rw[RG];exact h.2⟩
def zbo{Y:Sg}{k:Nat}(h:aZ x l vs):aZ x (GJ Y k l) vs:=by unfold GJ;split;exact Z? h;exact h
def YE(Y:Sg)(k:Nat)(l:X U):I5 (GJ Y k l)=I5 l:=by unfold GJ;split;exact mw l;rfl
structure Out(x y:Cx):Prop where
 h:jB y
 mo:Mo x.Y.nx x y
 fr:∀F,Fr F x->Fr F y
def nc:GY:=fun _ _ _=>none
def oZ(T:Tb)(x:Cx)(b:X I)(op:Op)(u:U)(a:Sg):Prop:=∃v y,BD T nc b x.s op=some (v,y.s)/\y.Y=a/\aD y u v/\Out x y
def Mo.refl(n:Nat)(x:Cx):Mo n x x:=⟨fun k _ a=>⟨a,fun b c=>⟨b,c,zF _,fun _=>⟨rfl,fun l e d st h=>⟨l,h⟩⟩⟩⟩,fun _ _ _ h=>h⟩
def Out.refl{x:Cx}(h:jB x):Out x x:=⟨h,Mo.refl _ _,fun _ h=>h⟩
variable{T:Tb}{C:X I}{op:Op}
def oZ.same(b:jB x)(h:BD T nc C x.s op=some (v,x.s))(a:aD x u v):oZ T x C op u x.Y:=⟨v,x,h,rfl,a,Out.refl b⟩
variable{call:GY}{s:S}
def z6c(h:jR T C op=some v):BD T call C s op=some (v,s):=by simp[BD,h]
def pg(a:jR T C op=none)(h:qQ T C s op=some v):BD T call C s op=some (v,s):=by simp[BD,h,a]
def qwh{r:I×S}(a:jR T C op=none)(b:qQ T C s op=none)(h:AS T C s op=some r):BD T call C s op=some r:=by simp[BD,h,a,b]
def bump(x:Cx):Cx:=⟨x.Z,x.Y,⟨x.s.h,x.s.nx+1⟩⟩
def OB(n:Nat)(x:Cx):Mo n x (bump x):=⟨fun k _ a=>⟨a,fun b c=>⟨b,c,zF _,fun _=>⟨rfl,fun l e d st h=>⟨l,h⟩⟩⟩⟩,fun _ _ _ h=>h⟩
def qoz(h:aD x u v):aD (bump x) u v:=(OB x.Y.nx x).ke u v (aD.L5 u v h) h
def XQ(h:aZ x l vs):aZ (bump x) l vs:=(OB x.Y.nx x).ke.E h.L5 h
def z51(h:jB x):Out x (bump x):=by
 refine⟨⟨fun k b n=>?_,h.inj,fun i b n=>Xm<|h.bd i b n⟩,OB _ _,fun F O=>O⟩;obtain⟨q,g⟩:=h.ok k b n;refine⟨q,?_⟩;cases b with
 |row l e=>obtain⟨o,i,p,c,d,a⟩:=g;exact⟨o,i,p,c,d,XQ a⟩
 |vec l e z st=>obtain⟨o,t,m⟩:=g;refine⟨o,t,?_⟩;obtain m |⟨i,p,c,d,a⟩:=m;exact .inl m;exact .inr ⟨i,p,c,d,XQ a⟩
 |map y w=>obtain⟨i,f,c,d,a⟩:=g;refine⟨i,f,c,d,a.1,fun j e r=>?_⟩;obtain⟨v,q1,q2,q3,q4⟩:=a.2 j e r;exact⟨v,q1,qoz q2,qoz q3,q4⟩
end Go.Vx
namespace Go.Vx
open Go Go.Rx
variable{l:X I}{n:Nat}
def z7c(h:n<=l.length):IW l n=some (l.take n):=by
 induction l generalizing n with
 |nil=>simp at h;subst h;simp[IW]|cons a l b=>cases n with
  |zero=>simp[IW]|succ n=>simp[IW,b<|by simpa using h]
variable{off:Nat}
def ub(h:off+n<=l.length):wK l off n=some ((l.drop off).take n):=z7c (by simp;omega)
variable{vs:X I}
def zaw(h:vs.length<=l.length):GP l vs=some (vs++l.drop vs.length):=by
 induction vs generalizing l with
 |nil=>simp[GP]|cons v vs b=>cases l with
  |nil=>simp at h|cons a l=>simp[GP,b<|by simpa using h]
def zay(h:off+vs.length<=l.length):AQ l off vs=some (l.take off++(vs++l.drop (off+vs.length))):=by
 induction l generalizing off with
 |nil=>simp at h;obtain⟨rfl,rfl⟩:=h;simp[AQ,GP]
 |cons a l b=>cases off with
  |zero=>simp only[AQ,Wy]at*;rw[zaw h];simp|succ off=>simp[AQ,b (off:=off) (by simp at h;omega),succ_add]
variable{l:X U}
def UE(h:I5 l=true)(n:Nat):I5 (l.take n)=true:=(NB _).2 fun u a=>(NB l).1 h u (zn a)
def H8(h:I5 l=true)(n:Nat):I5 (l.drop n)=true:=(NB _).2 fun u a=>(NB l).1 h u (TJ a)
def NG{a b:X U}(h:I5 a=true)(c:I5 b=true):I5 (a++b)=true:=(NB _).2 fun u d=>(yD.1 d).elim ((NB a).1 h u) ((NB b).1 c u)
variable{r:X U}
def UI(h:lW l off n=some r):off+n<=l.length/\r=(l.drop off).take n:=by unfold lW at h;split at h;simp at h;exact⟨by assumption,h.symm⟩;cases h
def z2r{vs:X U}(h:rV l off vs=some r):off+vs.length<=l.length/\r=l.take off++(vs++l.drop (off+vs.length)):=by unfold rV at h;split at h;simp at h;exact⟨by assumption,h.symm⟩;cases h
variable{x:Cx}
def z2q{vs:X U}{e g:X I}(h:rV l off vs=some r)(c:aZ x l e)(d:aZ x vs g):∃f,AQ e off g=some f/\aZ x r f/\(I5 l=true->I5 vs=true->I5 r=true):=by obtain⟨i,rfl⟩:=z2r h;refine⟨_,zay (by rw[<-c.2,<-d.2];exact i),?_,fun a b=>NG (UE a _)<|NG b<|H8 a _⟩;rw[<-d.2];exact(c.take _).append (d.append<|c.drop _)
def z3f{a:X I}(h:lW l off n=some r)(b:aZ x l a):wK a off n=some ((a.drop off).take n)/\aZ x r ((a.drop off).take n):=by obtain⟨c,rfl⟩:=UI h;exact⟨ub (by rw[<-b.2];exact c),(b.drop _).take _⟩
def Tl{x:Cx}{place:Nat->A (Nat×Nat)}:∀{p:X (Nat×U)}{s:X (Nat×I)}{cells r:X U}{a:X I},Ak x p s->aZ x cells a->rY place cells p=some r->∃j,F1 place a s=some j/\aZ x r j
 |_,_,cells,r,a,.nil,g,h=>by simp only[rY,zA]at h;subst h;exact⟨a,rfl,g⟩
 |_,_,cells,r,a,.cons (i:=i) (u:=u) (v:=v) (l:=l) (m:=m) w t,g,h=>by simp only[rY]at h;rcases b:place i with _|q;simp[b]at h;obtain⟨off,size⟩:=q;simp only[b]at h;rcases d:xB u with _|cs;simp[d]at h;simp only[d]at h;obtain⟨o,y⟩:=Ou w d;rcases e:Nat.beq cs.length size with _|_;simp[e]at h;simp only[e,zC]at h;rcases f:rV cells off cs with _|c;simp[f]at h;simp only[f]at h;obtain⟨j,q1,q2,_⟩:=z2q f g o;obtain⟨k,q3,q4⟩:=Tl t q2 h;exact⟨k,by simp only[F1,b];rw[<-o.2,e];simp only[zC,q1,q3],q4⟩
variable{T:Tb}{t:TypeId}{u:U}
def qwt{a:X U}(h:yu T t a off=some u)(b:aZ x a vs)(g:I5 a=true):∃v,GV T t vs off=some v/\aD x u v:=by
 unfold yu at h;unfold GV;rcases e:T.G4 t with _|d;simp[e]at h;simp only[e]at h ⊢;cases c:rH d with
 |true=>simp only[c,zC]at h ⊢;rcases f:cC T t with _|n;simp[f]at h;simp only[f,zA]at h ⊢;subst h;refine⟨_,rfl,?_⟩;simp only[aD];exact⟨_,rfl,((b.drop off).take n).1,((b.drop off).take n).2,UE (H8 g _) _⟩
 |false=>simp only[c,zD,jT]at h ⊢;exact b.get h
def qzc{m:X (Nat×U)}{y:X (Nat×I)}(h:Ll T t m=some u)(w:Ak x m y):∃v,Sh T t y=some v/\aD x u v:=by
 unfold Ll at h;unfold Sh;rcases s:T.inf t with _|q;simp[s]at h;obtain⟨a,b,z⟩:=q;simp only[s]at h ⊢;rcases o:qN z.cells.toList with _|zu;simp[o]at h;simp only[o]at h;have B:=(Ax _ _ o).2 x;rcases k:T.G4 t with _|d;simp[k]at h;cases d with
 |struct p=>simp only[k]at h ⊢;rcases g:J6 T p.toList with _|_;simp[g]at h;simp only[g,zC]at h ⊢;rcases c:rY (ND T p.toList) zu m with _|cs;simp[c]at h;simp only[c]at h;rcases f:I5 cs with _|_;simp[f]at h;simp only[f,zC,zA]at h;subst h;obtain⟨j,q1,q2⟩:=Tl w B c;exact⟨.agg j.toArray,by simp[q1],by simp only[aD];exact⟨j,rfl,q2.1,q2.2,f⟩⟩
 |array n e=>simp only[k]at h ⊢;rcases g:cC T e with _|A;simp[g]at h;simp only[g]at h ⊢;rcases c:rY (fun i=>some (i*A,A)) zu m with _|cs;simp[c]at h;simp only[c]at h;rcases f:I5 cs with _|_;simp[f]at h;simp only[f,zC,zA]at h;subst h;obtain⟨j,q1,q2⟩:=Tl w B c;exact⟨.agg j.toArray,by simp[q1],by simp only[aD];exact⟨j,rfl,q2.1,q2.2,f⟩⟩
 |_=>simp[k]at h
variable{Y:Sg}{k:Nat}
def Tv{st:Nat}(h:live Y k st=true):∃b,gt Y.h k=some b/\b.st=st:=by unfold live at h;rcases a:gt Y.h k with _|b;simp[a]at h;simp only[a,beq_eq,Gb]at h;exact⟨b,rfl,h⟩
variable{v:I}
def Bh{st:Nat}(e:live x.Y k st=true)(a:aD x (.ptr k st off) v):∃i,x.Z k=some i/\v=.pointer (some ⟨i,off,none⟩):=by obtain⟨b,c,d⟩:=Tv e;simp only[aD]at a;exact((a.2.2 b c).2 d.symm)
def Lu{c:Nat}(f:live x.Y k 0=true)(a:aD x (.sl k off n c) v):∃i,x.Z k=some i/\v=.slice (some ⟨i,off,none⟩) n c/\c<cP/\n<=c:=by obtain⟨b,d,e⟩:=Tv f;simp only[aD]at a;exact((a.2.2 b d).2 e.symm)
def SX(e:live x.Y k 0=true)(a:aD x (.map k) v):∃i,x.Z k=some i/\v=.map (some i):=by obtain⟨b,c,d⟩:=Tv e;simp only[aD]at a;exact((a.2.2 b c).2 d.symm)
def Lt{st:Nat}(i:live x.Y k st=true)(d:aD x (.vl k st off n) v):∃l e a,gt x.Y.h k=some (.vec l e a st)/\IV off n v a (x.Z k):=by obtain⟨b,c,f⟩:=Tv i;simp only[aD]at d;obtain⟨l,e,a,rfl,g⟩:=(d.2.2 b c).2 f.symm;exact⟨l,e,a,c,g⟩
def qjx{st:Nat}{r:X U×TypeId×Nat}(h:oR Y k st=some r):gt Y.h k=some (.vec r.1 r.2.1 r.2.2 st)/\live Y k st=true:=by
 unfold oR at h;rcases a:gt Y.h k with _|b;simp[a]at h;cases b with
 |vec l e f d=>simp only[a,beq_eq]at h;by_cases c:d=st;subst c;simp at h;subst h;exact⟨rfl,by simp[live,a,B.st]⟩;simp[c]at h|_=>simp[a]at h
def qon(h:rowOf Y k=some l):∃e,gt Y.h k=some (.row l e)/\live Y k 0=true:=by
 unfold rowOf at h;rcases a:gt Y.h k with _|b;simp[a]at h;cases b with
 |row c e=>simp[a]at h;subst h;exact⟨e,rfl,by simp[live,a,B.st]⟩|_=>simp[a]at h
def z99{b:Nat}{o:A Nat}(h:IV off n v b o):∃a c,v=.slice a n c:=by
 cases o with
 |none=>obtain⟨_,rfl,o,rfl,_⟩:=h;exact⟨o,0,rfl⟩
 |some i=>obtain⟨_,rfl,a,c,rfl,_⟩|rfl:=h<;>exact⟨_,_,rfl⟩
def qqp(q:jB x){st:Nat}(o:live x.Y k st=true)(p:aD x (.vl k st off n) v)(z:0<n):
  ∃i l e b c,gt x.Y.h k=some (.vec l e b st)/\x.Z k=some i/\v=.slice (some ⟨i,off*b,none⟩) n (cP+off)/\lk x.s.h i=some (.inl (c,e,b+2))/\aZ x l c/\0<b/\I5 l=true:=by obtain⟨l,e,b,g,a⟩:=Lt o p;obtain⟨_,w,y,d⟩:=q.ok k _ g;obtain⟨_,d⟩|⟨i,c,f,j,m⟩:=d;rw[d]at a;obtain⟨_,rfl,_⟩:=a;omega;rw[f]at a;obtain⟨_,rfl,_⟩|a:=a;omega;exact⟨i,l,e,b,c,g,f,a,j,m,y,w⟩
def qxf(g:jB x)(d:aD x u v)(h:gS x.Y u=k)(m:k≠0):
  (k=1/\∃a,v=.pointer (some a))\/(k=2/\∃a n c,v=.slice (some a) n c)\/(k=3/\∃r,v=.map (some r)):=by
 cases u with
 |ptr f st off=>simp only[gS]at h;rcases b:live x.Y f st with _|_;simp[b]at h;omega;simp[b]at h;obtain⟨i,_,rfl⟩:=Bh b d;exact .inl ⟨h.symm,_,rfl⟩
 |b4 l=>simp only[gS]at h;simp only[aD]at d;obtain⟨i,off,_,_,rfl,_⟩:=d;exact .inl ⟨h.symm,_,rfl⟩
 |sl f off n c=>simp only[gS]at h;rcases b:live x.Y f 0 with _|_;simp[b]at h;omega;simp[b]at h;obtain⟨i,_,rfl,_⟩:=Lu b d;exact .inr (.inl ⟨h.symm,_,_,_,rfl⟩)
 |vl f st off n=>cases n with|zero=>simp[gS]at h;omega|succ n=>simp only[gS]at h;rcases b:live x.Y f st with _|_;simp[b]at h;omega;simp[b]at h;obtain⟨i,l,e,p,o,_,_,rfl,_⟩:=qqp g b d<|succ_pos _;exact .inr (.inl ⟨h.symm,_,_,_,rfl⟩)
 |O t l=>obtain _|⟨c,l⟩:=l;simp[gS]at h;omega;simp only[gS]at h;simp only[aD]at d;obtain⟨d,_⟩|⟨i,off,j,rfl,_⟩:=d;cases d;exact .inr (.inl ⟨h.symm,_,_,_,rfl⟩)
 |map f=>simp only[gS]at h;rcases b:live x.Y f 0 with _|_;simp[b]at h;omega;simp[b]at h;obtain⟨i,_,rfl⟩:=SX b d;exact .inr (.inr ⟨h.symm,_,rfl⟩)
 |_=>simp[gS]at h;omega
def qoe(a:aD x u v)(h:NC u=k)(b:k≠0):(k=1/\v=.pointer none)\/(k=2/\v=.slice none 0 0)\/(k=3/\v=.map none):=by
 cases u with
 |b8=>simp only[NC]at h;simp only[aD]at a;exact .inl ⟨h.symm,a⟩|J=>simp only[NC]at h;simp only[aD]at a;exact .inr (.inl ⟨h.symm,a⟩)
 |e9=>simp only[NC]at h;simp only[aD]at a;exact .inr (.inr ⟨h.symm,a⟩)|_=>simp[NC]at h;omega
def z1i(J:jB x){op:BinOp}{a b:U}{j m:I}(h:Lc T x.Y op t a b=some u)(F:aD x a j)(G:aD x b m):∃v,u6 T op t j m=some v/\aD x u v:=by
 unfold Lc at h;simp only[beq_eq]at h;by_cases s:AZ T t=0;simp[s]at h;simp only[s,yB,zD]at h;have key:G9 op=some u->
   (AZ T t=1/\((∃p,j=.pointer (some p))/\m=.pointer none\/j=.pointer none/\∃p,m=.pointer (some p)))\/
   (AZ T t=2/\((∃p n c,j=.slice (some p) n c)/\m=.slice none 0 0\/j=.slice none 0 0/\∃p n c,m=.slice (some p) n c))\/
   (AZ T t=3/\((∃p,j=.map (some p))/\m=.map none\/j=.map none/\∃p,m=.map (some p)))->∃v,u6 T op t j m=some v/\aD x u v:=by
  intro w f;have C:∀{k:Nat},AZ T t=k->k≠0->(k=1->∃e,T.G4 t=some (.pointer e))/\(k=2->∃e,T.G4 t=some (.slice e))/\(k=3->∃e E,T.G4 t=some (.map e E)):=by intro k f K;unfold AZ at f;rcases H:T.G4 t with _|d;simp[H]at f;omega;cases d<;>simp[H]at f<;>subst f<;>simp at K ⊢
  obtain⟨f,A⟩|⟨f,A⟩|⟨f,A⟩:=f;obtain⟨e,z⟩:=(C f ag).1 rfl;obtain⟨⟨p,rfl⟩,rfl⟩|⟨rfl,p,rfl⟩:=A<;>cases op<;>simp[G9]at w<;>subst w<;>simp[u6,SD,HC,z,aD];obtain⟨e,z⟩:=(C f ag).2.1 rfl;obtain⟨⟨p,n,c,rfl⟩,rfl⟩|⟨rfl,p,n,c,rfl⟩:=A<;>cases op<;>simp[G9]at w<;>subst w<;>simp[u6,SD,HC,z,aD];obtain⟨e,E,z⟩:=(C f ag).2.2 rfl;obtain⟨⟨p,rfl⟩,rfl⟩|⟨rfl,p,rfl⟩:=A<;>cases op<;>simp[G9]at w<;>subst w<;>simp[u6,SD,HC,z,aD]
 by_cases B:gS x.Y a=AZ T t;by_cases o:NC b=AZ T t;simp only[B,o,yC,zC]at h;refine key h ?_;obtain⟨g,q⟩|⟨g,q⟩|⟨g,q⟩:=qxf J F B s<;>obtain⟨y,i⟩|⟨y,i⟩|⟨y,i⟩:=qoe G o s<;>first |omega |skip
 exact .inl ⟨g,.inl ⟨q,i⟩⟩;exact .inr<|.inl ⟨g,.inl ⟨q,i⟩⟩;exact .inr<|.inr ⟨g,.inl ⟨q,i⟩⟩;simp[B,o]at h;simp only[B,yB,zD]at h;by_cases o:NC a=AZ T t;by_cases D:gS x.Y b=AZ T t;simp only[o,D,yC,zC]at h;refine key h ?_;obtain⟨g,q⟩|⟨g,q⟩|⟨g,q⟩:=qxf J G D s<;>obtain⟨y,i⟩|⟨y,i⟩|⟨y,i⟩:=qoe F o s<;>first |omega |skip
 exact .inl ⟨g,.inr ⟨i,q⟩⟩;exact .inr<|.inl ⟨g,.inr ⟨i,q⟩⟩;exact .inr<|.inr ⟨g,.inr ⟨i,q⟩⟩;simp[o,D]at h;simp[o]at h
def z9h(i:jB x){op:BinOp}{a b:U}{f g:I}(h:M3 T x.Y op t a b=some u)(d:aD x a f)(e:aD x b g):∃v,u6 T op t f g=some v/\aD x u v:=by unfold M3 at h;rcases c:g2 (u6 T op t) a b with _|r;simp only[c]at h;exact z1i i h d e;simp only[c,zA]at h;subst h;exact WJ c d e
variable{v:I}{n:Nat}
def qgt{y d:Nat}(h:y4 v y=some n)(e:y<=d):y4 v d=some n/\n<=y:=by
 unfold y4 at*;cases v with
 |int k i=>
  simp only at*;rcases c:tO i (y+1)with _|_;simp[c]at h;simp only[c,zC,zA]at h;obtain⟨a,b⟩:=Md c;have:tO i (d+1)=true:=by
   unfold tO;cases i with
   |ofNat k=>simp at b ⊢;omega|negSucc k=>omega
  exact⟨by simp[this,h],by omega⟩
 |_=>simp at h
variable{D:A I}{G:A I}{l:Nat}{h:Nat}{m:Nat}
def UH{c:Nat}(a:nQ n n D G=some (l,h,m))(g:n<=c):nQ n c D G=some (l,h,c)/\l<=h/\h<=n/\m=n:=by
 unfold nQ at*;cases G with
 |none=>
  simp only at*;cases D with
  |none=>simp only[zA,zB]at a ⊢;obtain⟨rfl,rfl,rfl⟩:=a;simp
  |some v=>simp only at*;rcases b:y4 v n with _|k;simp[b]at a;simp only[b,zA,zB]at a ⊢;obtain⟨rfl,rfl,rfl⟩:=a;simp[(qgt b<|zF _).2]
 |some w=>
  simp only at*;rcases d:y4 w n with _|k2;simp[d]at a;obtain⟨f,e⟩:=qgt d g;simp only[d,f]at a ⊢;cases D with
  |none=>simp only[zA,zB]at a ⊢;obtain⟨rfl,rfl,rfl⟩:=a;simp[e]
  |some v=>simp only at*;rcases b:y4 v k2 with _|k;simp[b]at a;simp only[b,zA,zB]at a ⊢;obtain⟨rfl,rfl,rfl⟩:=a;simp[(qgt b<|zF _).2,e]
def pb{x:Cx}{b:Nat}:∀{l:X (X U)}{vs:X I},iD x b l vs->∀(i:Nat)(c:X U),l[i]? = some c->c.length=b/\I5 c=true/\c7 x c (vs.drop<|i*b)
 |[],vs,h,i,c,a=>by simp at a
 |d::l,vs,h,i,c,a=>by
  simp only[iD]at h;cases i with
  |zero=>simp at a;subst a;exact⟨h.1,h.2.1,by simpa using h.2.2.1⟩|succ i=>simp at a;have:=pb h.2.2.2 i c a;rw[mh]at this;rw[eF,zj];exact this
def z36{x:Cx}{b:Nat}:∀{l:X (X U)}{vs:X I},(∀(i:Nat)(c:X U),l[i]? = some c->c.length=b/\I5 c=true/\c7 x c (vs.drop<|i*b))->iD x b l vs
 |[],vs,h=>by simp[iD]
 |d::l,vs,h=>by simp only[iD];have a:=h 0 d rfl;refine⟨a.1,a.2.1,by simpa using a.2.2,z36 fun i c e=>?_⟩;have:=h (i+1) c (by simpa using e);rw[mh];rw[eF,zj]at this;exact this
def z5e{b:Type}(l:X b)(a h i:Nat):(uV l a h)[i]? = if a+i<h then l[a+i]? else none:=by unfold uV;rw[na,l8]
variable{a:Nat}
def qvh{b:Type}{l:X b}(c:h<=l.length):(uV l a h).length=h-a:=by simp[uV];omega
variable{x:Cx}{sz:Nat}
def z6y{l:X (X U)}{vs:X I}(d:iD x sz l vs):iD x sz (uV l a h) (vs.drop<|a*sz):=by refine z36 fun i c b=>?_;rw[z5e]at b;split at b;have:=pb d _ _ b;rw[mh];rw[dR]at this;exact this;cases b
def z7o{l:X (X U)}(h:(l.all fun c=>Nat.beq c.length sz)=true):∀c∈l,c.length=sz:=fun c b=>by
 have:=all_eq_true.1 h c b;simpa[beq_eq]using this
def z37{b:Nat}{l:X (X U)}{vs:X I}(e:iD x sz l vs)(d:l≠[])(h:(l.all fun c=>Nat.beq c.length b)=true):sz=b:=by obtain _|⟨c,l⟩:=l;exact absurd rfl d;rw[<-(pb e 0 c rfl).1];exact z7o h c ca
def pa{x:Cx}{sz:Nat}:∀{l:X (X U)}{vs:X I},iD x sz l vs->l.length*sz<=vs.length
 |[],vs,h=>by simp
 |d::l,vs,h=>by simp only[iD]at h;have c:=c7.len h.2.2.1;have b:=pa h.2.2.2;rw[oy]at b;rw[zO,eF];omega
def qss{x:Cx}{sz:Nat}:∀{l:X (X U)}{vs:X I},iD x sz l vs->aZ x l.flatten (vs.take<|l.length*sz)/\I5 l.flatten=true
 |[],vs,h=>by simpa[I5]using aZ.nil x
 |d::l,vs,h=>by
  have i:=pa h;simp only[iD]at h;obtain⟨b,c,f,g⟩:=h;obtain⟨g1,g2⟩:=qss g;refine⟨?_,by simpa using NG c g2⟩;have e:vs.take ((d::l).length*sz)=vs.take d.length++(vs.drop sz).take (l.length*sz):=by rw[zO,eF,zj,Ha,b]
  rw[e,Wx];exact f.kP.append g1
def qv6(T:Tb)(x:Cx)(t:TypeId)(u:U)(b:I)(D G:A I):Prop :=
 (∃v,uZ T t b D G=some v/\aD x u v)\/(uZ T t b D G=none/\∃v,N4 T x.s t b D G=some v/\aD x u v)\/ (uZ T t b D G=none/\N4 T x.s t b D G=none/\∃v,Ky T x.s t b D G=some (v,(bump x).s)/\aD (bump x) u v)
def y5{b:Nat}(h:a<b):blt a b=true:=tA h
def UB{b:Nat}(h:¬ a<b):blt a b=false:=by rcases c:blt a b with _|_;rfl;exact absurd (Bk c) h
variable{T:Tb}{t:TypeId}{e:TypeId}{i:Nat}{off:Nat}
def qmw(c:T.G4 t=some (.slice e))(z:cC T e=some sz)(E:0<sz){d:Nat}{row:X I}(N:0<n)(w:off=d*sz)(y:N7 x.s i sz=some row)
  (L:off+n*sz<=row.length) (J:nQ n n D G=some (l,h,m)):
  let f:=Value.slice (some ⟨i,off,none⟩) n (cP+d)
  uZ T t f D G=none/\(if l<h\/l=0 then N4 T x.s t f D G=some (.slice (some ⟨i,(d+l)*sz,none⟩) (h-l)<|cP+(d+l))
   else N4 T x.s t f D G=none/\Ky T x.s t f D G=some (.slice (some ⟨x.s.nx,0,none⟩) 0 cP,(bump x).s)):=by
 have b:blt (cP+d) cP=false:=UB ag;obtain⟨F,rfl⟩:∃q,n=q+1:=⟨n-1,by omega⟩;have j:cJ (cP+d)=d:=by simp[cJ]
 have K:F+1<=(row.length-off)/sz:=by rw[le_div_iff_mul_le E];omega
 obtain⟨p,M,H,_⟩:=UH J K;have g:ble (off+h*sz) row.length=true:=tA (by have:h*sz<=(F+1)*sz:=ri _ H;omega);refine⟨by simp[uZ,c,b,ei],?_⟩;have C:Nat.beq off (d*sz)=true:=by simp[w]
 have B:blt 0 sz=true:=y5 E;cases l with
 |zero=>simp only[or_true,It];simp only[N4,An,c,b,zD,z,y,j,C,zC,B,p,g];simp[w]|succ l=>
  by_cases o:l+1<h;simp only[o,true_or,It];simp only[N4,An,c,b,zD,z,y,j,C,zC,B,p,g,y5 o];simp[w,dR,my];have:¬ (l+1<h\/l+1=0):=by omega
  simp only[this,LX];simp only[N4,Ky,An,c,b,zD,z,y,j,C,zC,B,p,g,UB o];simp[bump]
def qxx{s:S}{l:X I}(h:lk s.h i=some (.inl (l,e,sz+2))):N7 s i sz=some l:=by simp[N7,h]
def qxw{s:S}{l:X I}(h:lk s.h i=some (.inl (l,sz+1,1))):N7 s i sz=some l:=by simp[N7,h]
variable{H:Nat}
def z38{k st:Nat}(c:aD x (.ptr k st off) v)(G:x.Z k=some i):aD x (.ptr k st H) (.pointer<|some ⟨i,H,none⟩):=by simp only[aD]at*;exact⟨rfl,c.2.1,fun b d=>⟨(c.2.2 b d).1,fun _=>⟨i,G,rfl⟩⟩⟩
def Ry{k st g:Nat}{l:X U}{d:I}(f:aD x (.vl k st off n) v)(o:gt x.Y.h k=some (.vec l e sz st))(j:d.oneCell'=true)(h:IV H g d sz (x.Z k)):aD x (.vl k st H g) d:=by simp only[aD]at*;refine⟨j,f.2.1,fun b c=>⟨(f.2.2 b c).1,fun _=>?_⟩⟩;rw[o]at c;cases c;exact⟨l,e,sz,rfl,h⟩
def M0:blt 0 cP=true:=y5 (by simp[cP])
def P!(b:nQ 0 0 D G=some (l,h,m)):l=0/\h=0/\m=0:=by obtain⟨_,c,d,f⟩:=UH b<|zF _;omega
def O!{c:Nat}{t:Rl}{l:X (X U)}{row:X I}(z:lk x.s.h i=some (.inl (row,e,1)))(C:iD x sz l (row.drop off))(B:h<=l.length)(y:a<h->H=off+a*sz)
  (E:t=true->c=h-a/\c<cP) (f:a<h->(c<cP/\h-a<=c)\/(cP<=c/\e=sz+1/\0<sz/\H=cJ c*sz)):aD x (.O t<|uV l a h) (.slice (some ⟨i,H,none⟩) (h-a) c):=by
 have b:=qvh (a:=a) B;simp only[aD];refine .inr ⟨i,H,c,by rw[b],by rw[b];exact E,?_⟩;by_cases g:a<h;have w:row.drop H=(row.drop off).drop (a*sz):=by rw[mh,y g]
 have d:=z6y (a:=a) (h:=h) C;rw[<-w]at d;refine .inr ⟨row,e,sz,z,d,?_⟩;rw[b];obtain f |⟨o,p,j,q⟩:=f g;exact .inl f;refine .inr ⟨o,p,j,q,?_⟩;have:=pa d;rw[b,oy]at this;have F:0<(h-a)*sz:=Gk ag j;omega;exact .inl (X0 (by rw[b];omega))
def z3l(j:T.G4 t=some (.slice e))(o:cC T e=some sz){tt:Rl}{l:X (X U)}{u:U}{R:I}(cD:(l.all fun c=>Nat.beq c.length sz)=true)
  (b:nQ l.length l.length D G=some (a,h,m)) (f:u=.O (cond tt (Nat.beq h l.length) false) (uV l a h)) (N:aD x (.O tt l) R):qv6 T x t u R D G:=by
 simp only[aD]at N;obtain⟨rfl,rfl |⟨r,rfl⟩⟩|⟨i,off,c,rfl,B,J⟩:=N;obtain⟨rfl,rfl,rfl⟩:=P! b;refine .inl ⟨.slice none 0 0,by simp only[zS]at b;simp[uZ,j,b,o,M0],?_⟩;subst f;simp[aD,uV];obtain⟨rfl,rfl,rfl⟩:=P! b;refine .inl ⟨.chan<|some r,by simp only[zS]at b;simp[uZ,j,b,o],?_⟩;subst f;simp[aD,uV];by_cases F:l=[];subst F;obtain⟨rfl,rfl,rfl⟩:=P! b;simp only[zS]at b B;have fin:∀(M:Rl)(H C:Nat),(M=true->C=0)->aD x (.O M<|uV [] 0 0) (.slice (some ⟨i,H,none⟩) 0 C):=fun M H C z=>by simp only[aD];exact .inr ⟨i,H,C,by simp[uV],fun h=>by rw[z h];simp[uV,cP],.inl<|by simp[uV]⟩
 by_cases g:c<cP;simp only[zS]at f;subst f;obtain⟨p,_⟩:=UH b<|qq c;have w:(cond tt (Nat.beq 0 0) false=true)->c=0:=fun h=>(B (by cases tt<;>simp_all)).1;cases q:Nat.beq c 0 with
 |true=>exact .inl ⟨_,by simp only[zS,uZ,j,y5 g,zC,p,o,q]<;>rfl,fin _ off c w⟩|false=>exact .inl ⟨_,by simp only[zS,uZ,j,y5 g,zC,zD,p,o,q]<;>rfl,fin _ _ c w⟩
 simp only[zS]at f;subst f;exact .inl ⟨_,by simp only[zS,uZ,j,UB g,zD,ei,b,o]<;>rfl,fin _ off c fun h=>absurd (B (by cases tt<;>simp_all)).2 g⟩;obtain J |⟨row,e',gT,g1,g2,g3⟩:=J;exact absurd J F;have dV:=z37 g2 F cD;subst dV;have jY:0<l.length:=by cases l<;>simp_all
 obtain⟨g,ov⟩|⟨g,he,P,K,V⟩:=g3;subst f;obtain⟨p,W,y,Z⟩:=UH b ov;have w:(cond tt (Nat.beq h l.length) false=true)->c-a=h-a/\c-a<cP:=fun O=>by obtain _|_:=tt;simp at O;simp at O;have:=(B rfl).1;omega
 cases q:Nat.beq c a with
 |true=>
  have:c=a:=by simpa[beq_eq]using q
  exact .inl ⟨_,by simp only[uZ,j,y5 g,zC,p,o,q]<;>rfl,O! g1 g2 y (fun z=>ag) w fun z=>ag⟩
 |false=>exact .inl ⟨_,by simp only[uZ,j,y5 g,zC,zD,p,o,q]<;>rfl,O! g1 g2 y (fun z=>rfl) w fun z=>.inl ag⟩
 obtain⟨d,rfl⟩:∃d,c=cP+d:=⟨c-cP,by omega⟩;have S:cJ (cP+d)=d:=by simp[cJ]
 rw[S]at K;subst he;have L:tt=false:=by obtain _|_:=tt;rfl;exact absurd (B rfl).2 ag
 subst L;simp only[zD]at f;subst f;obtain⟨p,W,y,Z⟩:=UH b<|zF _;obtain⟨Q,E⟩:=qmw j o P (i:=i) (n:=l.length) (d:=d) jY K (qxw g1) V b;split at E;exact .inr (.inl ⟨Q,_,E,O! g1 g2 y (fun _=>by rw[K,dR]) (fun h=>by cases h) fun _=>.inr ⟨by omega,rfl,P,by simp[cJ]⟩⟩);refine .inr<|.inr ⟨Q,E.1,_,E.2,?_⟩;have hn:(uV l a h)=[]:=X0 (by rw[qvh y];omega);rw[hn];simp only[aD];exact .inr ⟨x.s.nx,0,cP,rfl,(fun h=>by cases h),.inl trivial⟩
def z3m(hx:jB x){a u:U}{O:I}(h:TR T x.Y t a D G=some u)(w:aD x a O):qv6 T x t u O D G:=by
 unfold TR at h;rcases f:T.G4 t with _|d;simp[f]at h;cases d with
 |slice e=>
  simp only[f]at h;rcases p:cC T e with _|sz;simp[p]at h;simp only[p]at h;cases a with
  |vl k st off n=>
   simp only at h;rcases R:oR x.Y k st with _|q;simp[R]at h;obtain⟨r,e',K⟩:=q;obtain⟨y,hl⟩:=qjx R;simp only[R,beq_eq]at h;by_cases hz:K=sz;subst hz;simp only[yC,zC]at h;rcases b:nQ n n D G with _|q;simp[b]at h;obtain⟨l,L,m⟩:=q;simp only[b]at h;split at h;rename_i aP;simp only[zA]at h;subst h;obtain⟨l0,e0,Rg,tR,M⟩:=Lt hl w;have Q:(some<|B.vec r e' K st)=some (.vec l0 e0 Rg st):=y.symm.trans tR;cases Q;obtain⟨_,k1,k2,h3⟩:=hx.ok k _ y;have zero:∀o c,n=0->O=.slice o 0 c->(∀a,o=some a->a.spot=none)->(o=none->c=0)->∃g s,uZ T t O D G=some (.slice g 0 s)/\(c=0->s=0)/\(∀a,g=some a->a.spot=none)/\(o=none->g=none)/\(∀a,o=some a->∃J,g=some J)/\(¬ c<cP->g=o/\s=c):=by
    rintro o c rfl rfl C ho;obtain⟨E,S,V,W⟩:=UH b<|qq c;obtain rfl:L=0:=by omega
    obtain rfl:l=0:=by omega
    by_cases j:c<cP;obtain _|a:=o;exact⟨none,c,by simp[uZ,f,y5 j,E,p],by simp,by simp,by simp,by simp,fun z=>absurd j z⟩;rcases w9:Nat.beq c 0 with _|_;exact⟨some ⟨a.block,a.off+0*K,none⟩,c,by simp only[uZ,f,y5 j,E,p,w9,zC,zD,sc],by simp,by simp,by simp,by simp,fun z=>absurd j z⟩;exact⟨some a,c,by simp only[uZ,f,y5 j,E,p,w9,zC,sc],by simp,by simpa using C a rfl,by simp,by simp,fun z=>absurd j z⟩;obtain _|a:=o;exact absurd (by rw[ho rfl];simp[cP]) j;obtain rfl:m=0:=by omega
    exact⟨some a,c,by simp only[uZ,f,UB j,zD,ei,b,p],by simp,by simpa using C a rfl,by simp,by simp,fun _=>⟨rfl,rfl⟩⟩
   have P:n=0->l=0/\L=0:=fun oo=>by obtain⟨E,S,V,W⟩:=UH b<|zF _;omega
   obtain⟨yI,iL⟩|⟨i,l',F,e2,e3⟩:=h3;rw[iL]at M;obtain⟨rfl,rfl,o,rfl,C⟩:=M;obtain⟨rfl,rfl⟩:=P rfl;obtain⟨g,s,q1,q2,q3,q4,q5,q6⟩:=zero o 0 rfl rfl C (fun _=>rfl);rw[q2 rfl]at q1;exact .inl ⟨_,q1,Ry w y rfl (by rw[iL];exact⟨rfl,rfl,g,rfl,q3⟩)⟩;rw[F]at M;obtain⟨h0,rfl,a,c,rfl,C⟩|rfl:=M;obtain⟨rfl,rfl⟩:=P rfl;obtain⟨g,s,q1,q2,q3,q4,q5,q6⟩:=zero (some a) c rfl rfl (by simpa using C) ca;obtain⟨J,rfl⟩:=q5 a rfl;exact .inl ⟨_,q1,Ry w y rfl (by rw[F];exact .inl ⟨by omega,rfl,J,s,rfl,q3 J rfl⟩)⟩;by_cases z:n=0;subst z;obtain⟨rfl,rfl⟩:=P rfl;obtain⟨g,s,q1,q2,q3,q4,q5,q6⟩:=zero (some ⟨i,off*K,none⟩) (cP+off) rfl rfl ca ca;obtain⟨rfl,rfl⟩:=q6 ag;exact .inl ⟨_,q1,Ry w y rfl (by rw[F];exact .inr rfl)⟩;have:=qmw f p k2 (i:=i) (n:=n) (d:=off) ag rfl (qxx e2) (by rw[<-e3.2,<-dR];exact aP) b;obtain⟨s1,N⟩:=this;split at N;exact .inr (.inl ⟨s1,_,N,Ry w y rfl (by rw[F];exact .inr rfl)⟩);rename_i aH;obtain⟨E,S,V,W⟩:=UH b<|zF _;refine .inr<|.inr ⟨s1,N.1,_,N.2,?_⟩;have bU:=qoz w;have Yz:L-l=0:=by omega
   rw[Yz];exact Ry (x:=bump x) bU y rfl (by show IV _ _ _ _ (x.Z k);rw[F];exact .inl ⟨by omega,rfl,_,_,rfl,rfl⟩);cases h;simp[hz]at h
  |O tt l=>simp only at h;split at h;rename_i cD;rcases b:nQ l.length l.length D G with _|q;simp[b]at h;obtain⟨a,L,m⟩:=q;simp only[b]at h;simp only[zA]at h;exact z3l f p (tt:=tt) cD b h.symm w;cases h
  |_=>simp at h
 |_=>simp[f]at h
variable{T:Tb}{x:Cx}{a:U}{u:U}{H:I}
def qtp{st:TypeId}{f:Nat}(h:Tn T x.Y st a f=some u)(b:aD x a H):∃v,Tm T st H f=some v/\aD x u v:=by
 unfold Tn at h;unfold Tm;rcases c:T.G4 st with _|d;simp[c]at h;cases d with
 |struct p=>
  simp only[c]at h ⊢;rcases o:nth p.toList f with _|fd;simp[o]at h;simp only[o]at h ⊢;rcases j:cC T fd.type with _|n;simp[j]at h;cases n with
  |zero=>simp[j]at h|succ n=>
   simp only[j]at h;cases a with
   |ptr k s off=>simp only at h;rcases g:live x.Y k s with _|_;simp[g]at h;simp only[g,zC,zA]at h;subst h;obtain⟨i,G,rfl⟩:=Bh g b;exact⟨_,rfl,z38 b G⟩
   |b4 l=>simp only[zA]at h;subst h;simp only[aD]at b;obtain⟨i,off,row,e,rfl,q,w,y⟩:=b;refine⟨_,rfl,?_⟩;simp only[aD];exact⟨i,off+fd.offset,row,e,rfl,q,by rw[<-mh];exact w.drop _,H8 y _⟩
   |_=>simp at h
 |_=>simp[c]at h
def qzx{st:TypeId}{f:Nat}(h:U? T st a f=some u)(c:aD x a H):∃v,Sc T st H f=some v/\aD x u v:=by
 unfold U? at h;unfold Sc;rcases b:T.G4 st with _|d;simp[b]at h;cases d with
 |struct j=>
  simp only[b]at h ⊢;rcases g:nth j.toList f with _|fd;simp[g]at h;simp only[g]at h ⊢;cases a with
  |agg s=>simp only[aD]at c;obtain⟨vs,rfl,o,p,q⟩:=c;exact qwt h ⟨o,p⟩ q
  |_=>simp at h
 |_=>simp[b]at h
def N5{i:Int}{n:Nat}(h:0<=i/\i<n):tO i n=true:=by
 unfold tO;cases i with
 |ofNat k=>exact y5 (by have:=h.2;simp at this;exact this)|negSucc k=>have:=h.1;omega
variable{t:TypeId}
def qtt(P:jB x){b:U}{K:I}(h:DP T x.Y t a b=some u)(f:aD x a H)(w:aD x b K):∃v,Ti T t H K=some v/\aD x u v:=by
 unfold DP at h;cases b with
 |int k i=>
  simp only[aD]at w;subst w;simp only[Ti];simp only at h;rcases B:T.G4 t with _|d;simp[B]at h;cases d with
  |slice e=>
   simp only[B]at h;rcases o:cC T e with _|sz;simp[o]at h;simp only[o]at h;cases a with
   |sl k off n c=>simp only at h;rcases j:live x.Y k 0 with _|_;simp[j]at h;simp only[j,zC]at h;split at h;rename_i g;simp only[zA]at h;subst h;obtain⟨p,G,rfl,_⟩:=Lu j f;refine⟨_,by simp only[N5 g,zC,o]<;>rfl,?_⟩;obtain⟨b,q1,q2⟩:=Tv j;simp only[aD]at f ⊢;exact⟨rfl,f.2.1,fun b w=>⟨qq _,fun _=>⟨p,G,rfl⟩⟩⟩;cases h
   |vl k st off n=>simp only at h;rcases E:oR x.Y k st with _|q;simp[E]at h;obtain⟨l,z,F⟩:=q;obtain⟨O,j⟩:=qjx E;simp only[E,beq_eq]at h;by_cases s:F=sz;subst s;simp only[yC,zC]at h;split at h;rename_i g;simp only[zA]at h;subst h;obtain⟨p,l0,S,Q,l',M,C,rfl,J,W,Z,h7⟩:=qqp P j f ag;have:=O.symm.trans M;cases this;refine⟨_,by simp only[N5 ⟨g.1,g.2.1⟩,zC,o]<;>rfl,?_⟩;simp only[aD]at f ⊢;refine⟨rfl,f.2.1,fun b w=>⟨(f.2.2 b w).1,fun _=>⟨p,C,rfl⟩⟩⟩;cases h;simp[s]at h
   |O tt l=>simp only at h;split at h;rename_i g;rcases y:l[i.toNat]? with _|c;simp[y]at h;simp only[y,beq_eq]at h;by_cases s:c.length=sz;simp only[s,yC,zC,zA]at h;subst h;simp only[aD]at f;obtain⟨rfl,_⟩|⟨p,off,R,rfl,ht,L⟩:=f;simp at y;obtain rfl |⟨row,z,F,g1,g2,V⟩:=L;simp at y;obtain⟨q1,q2,q3⟩:=pb g2 _ _ y;refine⟨_,by simp only[N5 g,zC,o]<;>rfl,?_⟩;simp only[aD];refine⟨p,off+i.toNat*sz,row,z,rfl,g1,?_,q2⟩;rw[mh]at q3;rw[<-s,q1];exact q3;simp[s]at h;cases h
   |_=>simp at h
  |array n e=>
   simp only[B]at h;rcases o:cC T e with _|sz;simp[o]at h;simp only[o]at h;cases a with
   |ptr k st off=>simp only at h;rcases j:live x.Y k st with _|_;simp[j]at h;simp only[j,zC]at h;split at h;rename_i g;simp only[zA]at h;subst h;obtain⟨p,G,rfl⟩:=Bh j f;exact⟨_,by simp only[N5 g,zC,o]<;>rfl,z38 f G⟩;cases h
   |b4 l=>simp only at h;split at h;rename_i g;simp only[zA]at h;subst h;simp only[aD]at f;obtain⟨p,off,row,z,rfl,C,N,J⟩:=f;refine⟨_,by simp only[N5 g,zC,o]<;>rfl,?_⟩;simp only[aD];exact⟨p,_,row,z,rfl,C,by rw[<-mh];exact N.drop _,H8 J _⟩;cases h
   |_=>simp at h
  |_=>simp[B]at h
 |_=>simp at h
def z0o{b:U}{o:I}(h:uk T t a b=some u)(f:aD x a H)(g:aD x b o):∃v,Aq T t H o=some v/\aD x u v:=by
 unfold uk at h;cases a with
 |agg y=>
  simp only at h;cases b with
  |int k i=>
   simp only[aD]at f g;subst g;obtain⟨vs,rfl,q,s,w⟩:=f;simp only at h;rcases c:T.G4 t with _|d;simp[c]at h;cases d with
   |array n e=>simp only[c]at h;split at h;rename_i p;rcases j:cC T e with _|sz;simp[j]at h;simp only[j]at h;obtain⟨v,q1,q2⟩:=qwt h ⟨q,s⟩ w;exact⟨v,by simp only[Aq,c,N5 p,zC,j];exact q1,q2⟩;cases h
   |_=>simp[c]at h
  |_=>simp at h
 |_=>exact WJ h f g
def za9(p:jB x)(h:wP T x.Y t a=some u)(b:aD x a H):
  ∃v,JM T t H=some v/\aD x u v:=by
 unfold wP at h;unfold JM;rcases g:T.G4 t with _|d;simp[g]at h;cases d with
 |string=>
  simp only[g]at h ⊢;cases a with
  |str s=>simp only[zA]at h;subst h;simp only[aD]at b;subst b;exact⟨_,rfl,by simp[aD]⟩|_=>simp at h
 |slice e=>
  simp only[g]at h ⊢;cases a with
  |J=>simp only[zA]at h;subst h;simp only[aD]at b;subst b;exact⟨_,rfl,by simp[aD]⟩|sl k off n c=>simp only at h;rcases f:live x.Y k 0 with _|_;simp[f]at h;simp only[f,zC,zA]at h;subst h;obtain⟨i,_,rfl,_⟩:=Lu f b;exact⟨_,rfl,by simp[aD]⟩
  |vl k st off n=>simp only at h;rcases f:live x.Y k st with _|_;simp[f]at h;simp only[f,zC,zA]at h;subst h;obtain⟨_,_,_,_,j⟩:=Lt f b;obtain⟨o,c,rfl⟩:=z99 j;exact⟨_,rfl,by simp[aD]⟩
  |O q l=>simp only[zA]at h;subst h;simp only[aD]at b;obtain⟨rfl,rfl |⟨_,rfl⟩⟩|⟨_,_,_,rfl,_⟩:=b<;>exact⟨_,rfl,by simp[aD]⟩
  |_=>simp at h
 |array n e=>simp only[g]at h ⊢;cases a<;>simp at h<;>subst h<;>exact⟨_,rfl,by simp[aD]⟩|_=>simp[g]at h
def z6p(R:jB x){F:X U}{C:X I}(E:aZ x F C){op:Op}(h:iQ T x.Y F op=some u):oZ T x C op u x.Y:=by
 have one:∀v,jR T C op=some v->aD x u v->oZ T x C op u x.Y:=fun v w y=>oZ.same R (z6c w) y;unfold iQ at h;cases op with
 |move o=>obtain⟨v,w,y⟩:=iJ E h;exact one v (by simp[jR,w]) y
 |assign o=>obtain⟨v,w,y⟩:=iJ E h;exact one v (by simp[jR,w]) y
 |pick c a b=>
  simp only at h;rcases V:c5 F c with _|cu;simp[V]at h;obtain⟨cv,c1,c2⟩:=iJ E V;cases cu with
  |bool t=>
   simp only[aD]at c2;subst c2;cases t with
   |true=>simp only[V]at h;obtain⟨v,w,y⟩:=iJ E h;exact one v (by simp[jR,c1,w]) y
   |false=>simp only[V]at h;obtain⟨v,w,y⟩:=iJ E h;exact one v (by simp[jR,c1,w]) y
  |_=>simp[V]at h
 |build t ps=>simp only at h;rcases hp:B6 F ps.toList with _|qs;simp[hp]at h;simp only[hp]at h;obtain⟨vs,w,y⟩:=VK E hp;obtain⟨v,N,h4⟩:=qzc h y;exact one v (by simp[jR,w,N]) h4
 |nilCheck o=>
  simp only at h;rcases Q:c5 F o with _|a;simp[Q]at h;obtain⟨H,B,z⟩:=iJ E Q;cases a with
  |ptr k st off=>simp only[Q]at h;rcases hl:live x.Y k st with _|_;simp[hl]at h;simp only[hl,zC,zA]at h;subst h;obtain⟨i,G,rfl⟩:=Bh hl z;exact one _ (by simp[jR,B]) z
  |b4 l=>simp only[Q,zA]at h;subst h;have a3:=z;simp only[aD]at z;obtain⟨i,off,row,e,rfl,_⟩:=z;exact one _ (by simp[jR,B]) a3
  |fn f p q=>
   cases f with
   |func g=>simp only[Q,zA]at h;subst h;have a3:=z;simp only[aD]at z;obtain⟨i,off,rfl,_⟩:=z;exact one _ (by simp[jR,B]) a3
   |_=>simp[Q]at h
  |_=>simp[Q]at h
 |binOp o t a b ty=>simp only at h;rcases j:c5 F a with _|K;simp[j]at h;rcases J:c5 F b with _|bu;simp[j,J]at h;simp only[j,J]at h;obtain⟨H,B,z⟩:=iJ E j;obtain⟨vb,P,O⟩:=iJ E J;obtain⟨v,w,y⟩:=z9h R h z O;exact one v (by simp[jR,B,P,w]) y
 |unOp o t a=>simp only at h;rcases j:c5 F a with _|K;simp[j]at h;simp only[j]at h;obtain⟨H,B,z⟩:=iJ E j;obtain⟨v,w,y⟩:=WM h z;exact one v (by simp[jR,B,w]) y
 |convert s d a=>simp only at h;rcases j:c5 F a with _|K;simp[j]at h;simp only[j]at h;obtain⟨H,B,z⟩:=iJ E j;obtain⟨v,w,y⟩:=WM h z;exact one v (by simp[jR,B,w]) y
 |makeFunc f a b=>simp only at h;rcases j:pI F a.toList with _|K;simp[j]at h;rcases J:pI F b.toList with _|bu;simp[j,J]at h;simp only[j,J,zA]at h;subst h;obtain⟨H,B,z⟩:=Bp E j;obtain⟨vb,P,O⟩:=Bp E J;exact one _ (by simp[jR,B,P]<;>rfl) (by simp only[aD];exact⟨H,vb,rfl,z.1,z.2,O.1,O.2⟩)
 |slice t a D G mx=>
  cases mx with|some _=>simp at h|none=>
  simp only at h;rcases j:c5 F a with _|K;simp[j]at h;rcases w:CD F D with _|lo';simp[j,w]at h;rcases y:CD F G with _|jZ;simp[j,w,y]at h;simp only[j,w,y]at h;obtain⟨H,B,z⟩:=iJ E j;have L:=qrm E w;have M:=qrm E y;obtain⟨v,s1,s2⟩|⟨s0,v,s1,s2⟩|⟨s0,s1,v,s2,s3⟩:=z3m R h z;exact one v (by simp[jR,B,L,M,s1]) s2;exact oZ.same R (pg (by simp[jR,B,L,M,s0])<|by simp[qQ,B,L,M,s1]) s2;exact⟨v,bump x,qwh (by simp[jR,B,L,M,s0]) (by simp[qQ,B,L,M,s1]) (by simp[AS,B,L,M,s2]),rfl,s3,z51 R⟩
 |fieldAddr t a f=>simp only at h;rcases j:c5 F a with _|K;simp[j]at h;simp only[j]at h;obtain⟨H,B,z⟩:=iJ E j;obtain⟨v,w,y⟩:=qtp h z;exact one v (by simp[jR,B,w]) y
 |field t a f=>simp only at h;rcases j:c5 F a with _|K;simp[j]at h;simp only[j]at h;obtain⟨H,B,z⟩:=iJ E j;obtain⟨v,w,y⟩:=qzx h z;exact one v (by simp[jR,B,w]) y
 |indexAddr t a b=>simp only at h;rcases j:c5 F a with _|K;simp[j]at h;rcases J:c5 F b with _|bu;simp[j,J]at h;simp only[j,J]at h;obtain⟨H,B,z⟩:=iJ E j;obtain⟨vb,P,O⟩:=iJ E J;obtain⟨v,w,y⟩:=qtt R h z O;exact one v (by simp[jR,B,P,w]) y
 |index t a b=>simp only at h;rcases j:c5 F a with _|K;simp[j]at h;rcases J:c5 F b with _|bu;simp[j,J]at h;simp only[j,J]at h;obtain⟨H,B,z⟩:=iJ E j;obtain⟨vb,P,O⟩:=iJ E J;obtain⟨v,w,y⟩:=z0o h z O;exact one v (by simp[jR,B,P,w]) y
 |extract a i=>
  simp only at h;rcases j:c5 F a with _|K;simp[j]at h;simp only[j]at h;obtain⟨H,B,z⟩:=iJ E j;cases K with
  |a7 l=>simp only[aD]at z;obtain⟨vs,rfl,q1,q2⟩:=z;simp only[pz,jT]at h;obtain⟨v,w,y⟩:=(show aZ x l vs from⟨q1,q2⟩).get h;exact one v (by simp[jR,B,Mk,jT,w]) y
  |_=>simp[pz]at h
 |call c=>
  simp only at h;obtain⟨callee,args,ats⟩:=c;cases callee with
  |builtin b=>
   cases b with
   |len=>
    simp only at h;rcases j:pI F args.toList with _|us;simp[j]at h;obtain⟨vs,B,z⟩:=Bp E j;rcases Hb:ats.toList with _|⟨t,ts⟩;simp[j,Hb]at h;obtain _|⟨a,l⟩:=us;simp[j]at h;cases l with
    |cons _ _=>simp[j]at h|nil=>obtain⟨H,S,rfl,W,Z⟩:=z.inv;rw[Z.L7]at B;simp only[j,Hb]at h;obtain⟨v,q1,q2⟩:=za9 R h W;exact one v (by simp[jR,B,Hb,q1]) q2
   |max=>simp only at h;rcases j:pI F args.toList with _|us;simp[j]at h;obtain⟨vs,B,z⟩:=Bp E j;obtain _|⟨a,l⟩:=us;simp[j]at h;obtain⟨H,S,rfl,W,Z⟩:=z.inv;simp only[j]at h;rcases w:cK a with _|v1;simp[w]at h;rcases y:eE l with _|v2;simp[w,y]at h;simp only[w,y]at h;have L:=(DL a v1 w x H).1 W;have M:=(F5 l v2 y x S).1 Z;subst L;subst M;rcases N:B0 Ah H S with _|r;simp[N]at h;simp only[N]at h;exact one r (by simp[jR,B,N]) ((TX r u h).2 x)
   |min=>simp only at h;rcases j:pI F args.toList with _|us;simp[j]at h;obtain⟨vs,B,z⟩:=Bp E j;obtain _|⟨a,l⟩:=us;simp[j]at h;obtain⟨H,S,rfl,W,Z⟩:=z.inv;simp only[j]at h;rcases w:cK a with _|v1;simp[w]at h;rcases y:eE l with _|v2;simp[w,y]at h;simp only[w,y]at h;have L:=(DL a v1 w x H).1 W;have M:=(F5 l v2 y x S).1 Z;subst L;subst M;rcases N:B0 TP H S with _|r;simp[N]at h;simp only[N]at h;exact one r (by simp[jR,B,N]) ((TX r u h).2 x)
   |_=>simp at h
  |_=>simp at h
 |_=>simp at h
def qpa{T:Tb}{x:Cx}{o:TypeId}{k:I}:∀{f:X ME}{vs:X MapEntry}(i:Nat){r:A (Nat×U)},rX x f vs->J2 T o k f i=some r->
  (r=none/\wU T o k vs i=some none)\/∃j u v,r=some (j,u)/\wU T o k vs i=some (some (j,v))/\aD x u v/\i<=j/\∃e c,f[j-i]? = some e/\e.val=u/\vs[j-i]? = some c/\aD x e.key c.key/\c.born=e.born/\c.val=v
 |[],vs,i,r,hm,h=>by
  simp only[J2,zA]at h;subst h;have:vs=[]:=by have:=hm.1;simpa using this.symm
  subst this;exact .inl ⟨rfl,rfl⟩
 |e::f,[],i,r,hm,h=>by have:=hm.1;simp at this
 |e::f,c::vs,i,r,hm,h=>by
  obtain⟨v0,q0,q1,q2,q3⟩:=hm.2 0 e rfl;simp at q0;subst q0;have z:rX x f vs:=⟨by have:=hm.1;simpa using this,fun j d K=>by simpa using hm.2 (j+1) d (by simpa using K)⟩;simp only[J2]at h;rcases w:cK e.key with _|k';simp[w]at h;simp only[w]at h;have p:=(DL _ _ w x _).1 q1;rcases g:eqv T 50 o k k' with _|b;simp[g]at h;cases b with
  |true=>simp only[g,zA]at h;subst h;exact .inr ⟨i,e.val,c.val,rfl,by simp[wU,p,g],q2,zF _,e,c,by simp,rfl,by simp,q1,q3,rfl⟩|false=>simp only[g]at h;obtain⟨q,s⟩|⟨j,u,v,q,s,B,L,d,y,C,E,F,J⟩:=qpa (i+1) z h;exact .inl ⟨q,by simp[wU,p,g,s]⟩;refine .inr ⟨j,u,v,q,by simp[wU,p,g,s],B,by omega,d,y,?_,E,?_,J⟩;rw[show j-i=(j-(i+1))+1 by omega];simpa using C;rw[show j-i=(j-(i+1))+1 by omega];simpa using F
def qw6{l:X U}{off:Nat}{f:X I}(h:GX T t l off=some u)(b:c7 x l f)(y:I5 l=true):
  ∃v,(match T.G4 t with
    |none=>none|some d=>cond (rH d) (match cC T t with
      |some n=>match wK f off n with
       |some j=>some (.agg j.toArray)|none=>none
      |none=>none)<|nth f off)=some v/\aD x u v:=by
 unfold GX at h;rcases q:T.G4 t with _|d;simp[q]at h;simp only[q]at h ⊢;cases p:rH d with
 |true=>
  simp only[p,zC]at h ⊢;rcases s:cC T t with _|n;simp[s]at h;simp only[s]at h ⊢;rcases g:lW l off n with _|j;simp[g]at h;simp only[g,zA]at h;subst h;obtain⟨B,rfl⟩:=UI g;have z:=c7.len b;rw[ub ag];refine⟨_,rfl,?_⟩;simp only[aD];have:=(b.drop off).kP;have o:aZ x ((l.drop off).take n) ((f.drop off).take n):=by refine aZ.mk' (by simp;omega) fun i u c=>?_;rw[l8]at c ⊢;split at c;rename_i w;simp only[w,It];exact(JC x _ _).1 (b.drop off) i u c;cases c
  exact⟨_,rfl,o.1,o.2,UE (H8 y _) _⟩
 |false=>simp only[p,zD,jT]at h ⊢;exact(JC x _ _).1 b _ _ h
def qk0(z:jB x){k st:Nat}{l:X U}(h:cellsOf x.Y k st=some l){off:Nat}{v:I}(y:aD x (.ptr k st off) v):
  ∃i d e j,x.Z k=some i/\v=.pointer (some ⟨i,off,none⟩)/\lk x.s.h i=some (.inl (d,e,j))/\j≠1/\aZ x l d/\I5 l=true/\
   ((j=0/\gt x.Y.h k=some (.row l e))\/(∃sz,j=sz+2/\0<sz/\gt x.Y.h k=some (.vec l e sz st))):=by
 unfold cellsOf at h;rcases c:gt x.Y.h k with _|b;simp[c]at h;cases b with
 |row K e=>simp only[c,beq_eq]at h;by_cases f:0=st;subst f;simp at h;subst h;obtain⟨i,G,rfl⟩:=Bh (x:=x) (by simp[live,c,B.st]) y;obtain⟨_,q,F,d,g,o,p⟩:=z.ok k _ c;rw[G]at g;cases g;exact⟨i,d,e,0,G,rfl,o,by omega,p,q,.inl ⟨rfl,rfl⟩⟩;simp[f]at h
 |vec K e sz C=>simp only[c,beq_eq]at h;by_cases f:C=st;subst f;simp at h;subst h;obtain⟨i,G,rfl⟩:=Bh (x:=x) (by simp[live,c,B.st]) y;obtain⟨_,q,J,E⟩:=z.ok k _ c;obtain⟨N,w⟩|⟨F,d,g,o,p⟩:=E;rw[G]at w;cases w;rw[G]at g;cases g;exact⟨i,d,e,sz+2,G,rfl,o,by omega,p,q,.inr ⟨sz,rfl,J,rfl⟩⟩;simp[f]at h
 |map M L=>simp[c]at h
def qwx(Q:jB x){R:X U}{C:X I}(ht:aZ x R C){op:Op}(h:qR T x.Y R op=some u):oZ T x C op u x.Y:=by
 unfold qR at h;cases op with
 |load t o=>
  simp only at h;rcases P:c5 R o with _|a;simp[P]at h;obtain⟨H,y,E⟩:=iJ ht P;cases a with
  |ptr k st off=>simp only[P]at h;rcases hc:cellsOf x.Y k st with _|l;simp[hc]at h;simp only[hc]at h;obtain⟨i,lv,e,md,q1,rfl,q2,_,q3,q4,_⟩:=qk0 Q hc E;obtain⟨v,f,r2⟩:=qw6 h q3.1 q4;exact oZ.same Q (pg (by simp[jR]) (by simp only[qQ,y,q2];exact f)) r2
  |b4 l=>
   simp only[P]at h;simp only[aD]at E;obtain⟨i,off,row,e,rfl,g1,g2,g3⟩:=E;obtain⟨v,f,r2⟩:=qw6 h g2 g3;refine oZ.same Q (pg (by simp[jR]) (v:=v) ?_) r2;simp only[qQ,y,g1];rcases c:T.G4 t with _|d;simp[c]at f;simp only[c]at f ⊢;cases J:rH d with
   |true=>simp only[J,zC]at f ⊢;rcases hs:cC T t with _|n;simp[hs]at f;simp only[hs,wK,mh,ek]at f ⊢;exact f
   |false=>simp only[J,zD,jT,na,ek]at f ⊢;exact f
  |_=>simp[P]at h
 |lookup t a b ok=>
  simp only at h;rcases c:T.G4 t with _|d;simp[c]at h;cases d with
  |map kt et=>
   rcases J:c5 R a with _|m;simp[c,J]at h;rcases hb:c5 R b with _|ku;simp[c,J,hb]at h;simp only[c,J,hb]at h;obtain⟨H,y,E⟩:=iJ ht J;obtain⟨W,S,b2⟩:=iJ ht hb;rcases hk:cK ku with _|kv;simp[hk]at h;simp only[hk]at h;have ekv:=(DL _ _ hk x W).1 b2;subst ekv;rcases M:xW T 50 kt W with _|_;simp[M]at h;simp only[M,zC]at h;have key:∀ (L:X ME) (vs:X MapEntry),(H = .map none/\vs=[]\/∃ i N,H = .map (some i)/\lk x.s.h i=some (.inr (vs,N)))->rX x L vs->(match J2 T kt W L 0 with
      |none=>none|some (some (_,v))=>some (cond ok (.a7 [v,.bool true]) v)
      |some none=>match T.inf et with
       |some (_,_,z)=>(match jL z with
        |some zu=>some (cond ok (.a7 [zu,.bool false]) zu)|none=>none)
       |none=>none)=some u->oZ T x C (.lookup t a b ok) u x.Y:=by
    intro L vs g e3 h;have fin:∀v,qQ T C x.s (.lookup t a b ok)=some v->aD x u v->oZ T x C (.lookup t a b ok) u x.Y:=fun v h1 F=>oZ.same Q (pg (by simp[jR]) h1) F;have Qz:∀(p:U)(q:I)(K:Rl),aD x p q->aD x (cond ok (.a7 [p,.bool K]) p) (cond ok (.tuple #[q,.bool K]) q):=fun p q K uE=>by obtain _|_:=ok;exact uE;simp only[zC,aD];exact⟨[q,.bool K],rfl,by simp[c7,uE,aD],rfl⟩
    rcases V:J2 T kt W L 0 with _|r';simp[V]at h;obtain⟨rfl,F⟩|⟨j,w,v,rfl,F,h3,_⟩:=qpa 0 e3 V;simp only[V]at h;rcases G:T.inf et with _|q;simp[G]at h;obtain⟨q1,q2,z⟩:=q;simp only[G]at h;rcases hz:jL z with _|zu;simp[hz]at h;simp only[hz,zA]at h;subst h;have Z:qQ T C x.s (.lookup t a b ok)=some (cond ok (.tuple #[z,.bool false]) z):=by obtain⟨rfl,rfl⟩|⟨i,N,rfl,g⟩:=g;simp only[qQ,c,y,S,M,zC,F,G];simp only[qQ,c,y,S,M,zC,g,F,G]
    exact fin _ Z<|Qz _ _ _<|(TX _ _ hz).2 x;simp only[V,zA]at h;subst h;have Z:qQ T C x.s (.lookup t a b ok)=some (cond ok (.tuple #[v,.bool true]) v):=by obtain⟨rfl,rfl⟩|⟨i,N,rfl,g⟩:=g;simp only[qQ,c,y,S,M,zC,F];simp only[qQ,c,y,S,M,zC,g,F]
    exact fin _ Z (Qz _ _ _ h3)
   cases m with
   |e9=>simp only[aD]at E;exact key [] [] (.inl ⟨E,rfl⟩) ⟨rfl,by simp⟩ h|map r=>
    simp only at h;rcases O:gt x.Y.h r with _|K;simp[O]at h;cases K with
    |map L N=>simp only[O]at h;obtain⟨i,G,rfl⟩:=SX (x:=x) (by simp[live,O,B.st]) E;obtain⟨_,i',es',g,e2,e3⟩:=Q.ok r _ O;rw[G]at g;cases g;exact key L es' (.inr ⟨i,N,rfl,e2⟩) e3 h
    |_=>simp[O]at h
   |_=>simp at h
  |_=>simp[c]at h
 |_=>simp at h
variable{x:Cx}{k:Nat}{b:B}
def o8.mono{y:Cx}(h:o8 x k b)(hm:Mo x.Y.nx x y)(w:y.Z k=x.Z k)(C:∀i c,x.Z k=some i->lk x.s.h i=some c->lk y.s.h i=some c):o8 y k b:=by
 have p:∀{q:X ME}{d:X MapEntry},rX x q d->rX y q d:=fun{q d} f=>⟨f.1,fun j e L=>by obtain⟨v,q1,q2,q3,q4⟩:=f.2 j e L;exact⟨v,q1,hm.ke _ _ (aD.L5 _ _ q2) q2,hm.ke _ _ (aD.L5 _ _ q3) q3,q4⟩⟩;cases b with
 |row l e=>obtain⟨F,i,J,g,o,f⟩:=h;exact⟨F,i,J,by rw[w,g],C _ _ g o,hm.ke.E f.L5 f⟩
 |vec l e sz st=>obtain⟨F,M,z⟩:=h;refine⟨F,M,?_⟩;obtain⟨z,K⟩|⟨i,J,g,o,f⟩:=z;exact .inl ⟨z,by rw[w,K]⟩;exact .inr ⟨i,J,by rw[w,g],C _ _ g o,hm.ke.E f.L5 f⟩
 |map q N=>obtain⟨i,d,g,o,f⟩:=h;exact⟨i,d,by rw[w,g],C _ _ g o,p f⟩
def o8.pU{i:Nat}(h:o8 x k b)(G:x.Z k=some i){row:X I}{e:TypeId}:lk x.s.h i≠some (.inl (row,e,1)):=by
 intro f;cases b with
 |row l o=>obtain⟨_,j,w,c,d,_⟩:=h;rw[G]at c;cases c;rw[f]at d;cases d
 |vec l o sz st=>obtain⟨_,_,q⟩:=h;obtain⟨_,g⟩|⟨j,w,c,d,_⟩:=q;rw[G]at g;cases g;rw[G]at c;cases c;rw[f]at d;cases d
 |map z y=>obtain⟨j,p,c,d,_⟩:=h;rw[G]at c;cases c;rw[f]at d;cases d
def kB{y:Cx}(o:jB x)(K:Nat)(L:B)(hn:x.Y.nx<=y.Y.nx)(hK:K<y.Y.nx)(R:∀k,k≠K->gt y.Y.h k=gt x.Y.h k/\y.Z k=x.Z k)(iG:gt y.Y.h K=some L)
  (mX:(∃E,gt x.Y.h K=some E/\E.st<=L.st/\(E.st=L.st->y.Z K=x.Z K/\∀l e sz st,E=.vec l e sz st->∃l',L=.vec l' e sz st))\/(gt x.Y.h K=none/\x.Y.nx<=K)) (yL:∀i b,lk x.s.h i=some b->(∀c,gt x.Y.h K=some c->x.Z K≠some i)->lk y.s.h i=some b)
  (sS:∀i,y.Z K=some i->(∃c,gt x.Y.h K=some c/\x.Z K=some i)\/x.s.nx<=i) (iW:∀i b,lk y.s.h i=some b->i<y.s.nx) (hB:Mo x.Y.nx x y->o8 y K L):Out x y:=by
 have S:Mo x.Y.nx x y:=by refine⟨fun k hk _=>⟨by omega,fun C J=>?_⟩,fun i row e Q=>yL i _ Q fun c j W=>(o.ok K c j).2.pU W Q⟩;by_cases e:k=K;subst e;rw[iG]at J;cases J;obtain⟨E,p,g,N⟩|⟨_,g⟩:=mX;exact⟨E,p,g,N⟩;omega;obtain⟨p,g⟩:=R k e;exact⟨C,by rw[<-p,J],zF _,fun _=>⟨g,fun l e sz st h=>⟨l,h⟩⟩⟩
 have cA:∀k b i c,k≠K->gt x.Y.h k=some b->x.Z k=some i->gt x.Y.h K=some c->x.Z K≠some i:=fun k b i c hk f G j W=>hk<|o.inj k K b c i f j G W;refine⟨⟨fun k b f=>?_,fun k z b C i f J G jZ=>?_,iW⟩,S,fun F O i b f=>?_⟩;by_cases e:k=K;subst e;rw[iG]at f;cases f;exact⟨hK,hB S⟩;obtain⟨p,g⟩:=R k e;rw[p]at f;obtain⟨N,P⟩:=o.ok k b f;exact⟨by omega,P.mono S g fun i c G Q=>yL i c Q fun d V=>cA k b i d e f G V⟩;have own:∀k b i,k≠K->gt y.Y.h k=some b->y.Z k=some i->gt x.Y.h k=some b/\x.Z k=some i/\i<x.s.nx:=fun k b i e f G=>by
  obtain⟨p,g⟩:=R k e;rw[p]at f;rw[g]at G;refine⟨f,G,?_⟩;have:=(o.ok k b f).2;cases b with
  |row l e=>obtain⟨_,i',l',q,M,_⟩:=this;rw[G]at q;cases q;exact o.bd _ _ M
  |vec l w sz st=>obtain⟨_,_,N⟩:=this;obtain⟨_,P⟩|⟨i',l',q,M,_⟩:=N;rw[G]at P;cases P;rw[G]at q;cases q;exact o.bd _ _ M
  |map es cl=>obtain⟨i',es',q,M,_⟩:=this;rw[G]at q;cases q;exact o.bd _ _ M
 by_cases e:k=K;by_cases w:z=K;rw[e,w];exfalso;subst e;obtain⟨q1,q2,q3⟩:=own z C i w J jZ;obtain⟨c,j,pP⟩|KY:=sS i G;exact w<|o.inj z k C c i q1 j q2 pP;omega;by_cases w:z=K;exfalso;subst w;obtain⟨q1,q2,q3⟩:=own k b i e f G;obtain⟨c,j,pP⟩|KY:=sS i jZ;exact e<|o.inj k z b c i q1 j q2 pP;omega;obtain⟨q1,q2,_⟩:=own k b i e f G;obtain⟨q3,q4,_⟩:=own z C i w J jZ;exact o.inj k z b C i q1 q3 q2 q4;obtain⟨p,g⟩:=O i b f;refine⟨yL i b p fun c j=>g K c j,fun k c j G=>?_⟩;by_cases e:k=K;subst e;obtain⟨d,V,bF⟩|KY:=sS i G;exact g k d V bF;have:=o.bd i b p;omega;obtain⟨q1,q2⟩:=R k e;rw[q1]at j;rw[q2]at G;exact g k c j G
def mO(Z:Nat->A Nat)(k:Nat)(o:A Nat):Nat->A Nat:=fun j=>if j=k then o else Z j
def Zw(Z:Nat->A Nat)(k:Nat)(o:A Nat):mO Z k o k=o:=by simp[mO]
def S!(Z:Nat->A Nat){j:Nat}(o:A Nat)(h:j≠k):mO Z k o j=Z j:=by simp[mO,h]
def WI(c:jB x):gt x.Y.h x.Y.nx=none:=by rcases h:gt x.Y.h x.Y.nx with _|b;rfl;have:=(c.ok _ b h).1;omega
def qql(g:jB x)(b:B)(c:m9)(o:∀y:Cx,y.Z x.Y.nx=some x.s.nx->lk y.s.h x.s.nx=some c->Mo x.Y.nx x y->o8 y x.Y.nx b):
  Out x ⟨mO x.Z x.Y.nx<|some x.s.nx,cc x.Y b,⟨(x.s.nx,c)::x.s.h,x.s.nx+1⟩⟩:=by refine kB g x.Y.nx b (by simp[cc]) (by simp[cc]) (fun k j=>⟨by simp[cc,aV,Wv j],S! _ _ j⟩) (by simp[cc,aV]) (.inr ⟨WI g,zF _⟩) (fun i d f _=>?_) (fun i G=>?_) (fun i d f=>?_) (fun hm=>?_);have:=g.bd i d f;simp[mD,show x.s.nx≠i by omega,f];change mO _ _ _ _=some i at G;rw[Zw]at G;cases G;exact .inr<|zF _;simp only[mD]at f;split at f;show i<x.s.nx+1;omega;exact Xm<|g.bd i d f;exact o _ (by simp[mO]) (by simp[mD]) hm
def gk(c:jB x)(e:TypeId)(sz:Nat)(g:0<sz):Out x ⟨mO x.Z x.Y.nx none,cc x.Y<|.vec [] e sz 0,x.s⟩:=by refine kB c x.Y.nx (.vec [] e sz 0) (by simp[cc]) (by simp[cc]) (fun k f=>⟨by simp[cc,aV,Wv f],S! _ _ f⟩) (by simp[cc,aV]) (.inr ⟨WI c,zF _⟩) (fun i d j _=>j) (fun i G=>?_) c.bd (fun hm=>?_);change mO _ _ _ _=some i at G;rw[Zw]at G;cases G;exact⟨rfl,g,.inl ⟨rfl,by simp[mO]⟩⟩
def Ss{c:m9}{st:Nat}(f:b.st=st){p:A Nat->Prop}(g:p (some x.s.nx)):Ref ⟨mO x.Z x.Y.nx<|some x.s.nx,cc x.Y b,⟨(x.s.nx,c)::x.s.h,x.s.nx+1⟩⟩ x.Y.nx st p:=by refine⟨by simp[cc],fun j d=>?_⟩;simp only[cc,aV,It,zA]at d;subst d;exact⟨la f.symm,fun _=>by simpa[mO]using g⟩
def Ta(p:jB x){K i:Nat}{f bK:B}{c:m9}(g:gt x.Y.h K=some f)(G:x.Z K=some i){w:m9}(q:lk x.s.h i=some w)(C:f.st=bK.st)(L:∀l e sz st,f=.vec l e sz st->∃M,bK=.vec M e sz st)
  (E:∀y:Cx,y.Z K=some i->lk y.s.h i=some c->Mo x.Y.nx x y->o8 y K bK):Out x ⟨x.Z,⟨ug x.Y.h K bK,x.Y.nx⟩,⟨up x.s.h i c,x.s.nx⟩⟩:=by refine kB p K bK (zF _) (p.ok K _ g).1 (fun k J=>⟨by simp[bT,Wv J],rfl⟩) (by simp[bT,g]) (.inl ⟨f,g,la C,fun _=>⟨rfl,L⟩⟩) (fun j d o z=>?_) (fun j F=>.inl ⟨f,g,F⟩) (fun j d o=>?_) (fun hm=>?_);have:i≠j:=fun e=>z f g (by rw[G,e]);simp[AY,this,o];simp only[AY]at o;split at o;rename_i e;subst e;exact p.bd i _ q;exact p.bd j d o;exact E _ G (by simp[AY,q]) hm
def TD{c:X U}{z:X I}(h:aZ x c z)(n:Nat):aZ x (y3 c n) (cY z n):=by induction n with|zero=>exact aZ.nil x|succ n d=>simp only[y3,Jg,Wx,cY];exact h.append d
def z7j{c:X U}(h:I5 c=true)(n:Nat):I5 (y3 c n)=true:=by induction n with|zero=>rfl|succ n d=>simp only[y3,Jg,Wx];exact NG h d
section
variable{T:Tb}{x:Cx}(c:jB x){tm:X U}{C:X I}(f:aZ x tm C)
include c
def bk{l:X U}{d:X I}(g:aZ x l d)(p:I5 l=true)(e:TypeId):Out x ⟨mO x.Z x.Y.nx<|some x.s.nx,cc x.Y<|.row l e,Rx.newRow x.s d e 0⟩:=
 qql c (.row l e) (.inl (d,e,0)) fun y j o hm=>⟨p,x.s.nx,d,j,o,hm.ke.E g.L5 g⟩
def qoc{l:X U}{d:X I}(g:aZ x l d)(q:I5 l=true)(e:TypeId){sz:Nat}(j:0<sz):Out x ⟨mO x.Z x.Y.nx<|some x.s.nx,cc x.Y<|.vec l e sz 0,Rx.newRow x.s d e<|sz+2⟩:=
 qql c (.vec l e sz 0) (.inl (d,e,sz+2)) fun y o p hm=>⟨q,j,.inr ⟨x.s.nx,d,o,p,hm.ke.E g.L5 g⟩⟩
variable{t:TypeId}{r:U}{Y':Sg}
def z3s{p u:U}{V P:I}(h:Am T x.Y t p u=some (r,Y'))(W:aD x p V)(hu:aD x u P):
  ∃v y,Kx T x.s t V P=some (v,y.s)/\y.Y=Y'/\aD y r v/\Out x y:=by
 unfold Am at h;cases p with
 |ptr k st off=>
  simp only at h;rcases O:cC T t with _|n;simp[O]at h;simp only[O]at h;rcases N:xB u with _|cs;simp[N]at h;simp only[N]at h;obtain⟨w,F⟩:=Ou hu N;rcases q:Nat.beq cs.length n with _|_;simp[q]at h;simp only[q,zC,F]at h;rcases K:cellsOf x.Y k st with _|l;simp[K]at h;simp only[K]at h;obtain⟨i,lv,e,R,q1,rfl,q2,q3,q4,q5,q6⟩:=qk0 c K W;have z:=zbo (Y:=x.Y) (k:=k) w;have J:I5 (GJ x.Y k cs)=true:=by rw[YE];exact F
  rcases d:rV l off (GJ x.Y k cs)with _|l1;simp[d]at h;simp only[d]at h;obtain⟨j,p1,o,p3⟩:=z2q d q4 z;have S:=p3 q5 J;have Q:Kx T x.s t (.pointer<|some ⟨i,off,none⟩) P=some (undef,⟨up x.s.h i<|.inl (j,e,R),x.s.nx⟩):=by
   have w7:eQ x.s i=some (lv,e,R):=by unfold eQ;obtain⟨rfl,_⟩|⟨sz,rfl,_⟩:=q6<;>simp[q2]
   simp only[Kx,O];rw[<-w.2,q];simp only[zC,bf w F,w7,p1]
  obtain⟨rfl,g⟩|⟨sz,rfl,hz,g⟩:=q6;simp only[P4,g,zA,zB]at h;obtain⟨rfl,rfl⟩:=h;exact⟨undef,⟨x.Z,⟨ug x.Y.h k<|.row l1 e,x.Y.nx⟩,⟨up x.s.h i<|.inl (j,e,0),x.s.nx⟩⟩,Q,rfl,by simp[aD],Ta c g q1 q2 rfl ca fun y L M hm=>⟨S,i,j,L,M,hm.ke.E o.L5 o⟩⟩;simp only[P4,g,zA,zB]at h;obtain⟨rfl,rfl⟩:=h;exact⟨undef,⟨x.Z,⟨ug x.Y.h k<|.vec l1 e sz st,x.Y.nx⟩,⟨up x.s.h i<|.inl (j,e,sz+2),x.s.nx⟩⟩,Q,rfl,by simp[aD],Ta c g q1 q2 rfl (by rintro l e sz st h;cases h;exact⟨_,rfl⟩) fun y L M hm=>⟨S,hz,.inr ⟨i,j,L,M,hm.ke.E o.L5 o⟩⟩⟩
 |_=>simp at h
def qs3{n:Nat}{J:X (Nat×U)}{L:X (Nat×I)}(h:Tu T x.Y t n J=some (r,Y'))(N:Ak x J L):∃v y,Tt T x.s t n L=some (v,y.s)/\y.Y=Y'/\aD y r v/\Out x y:=by
 unfold Tu at h;rcases g:T.G4 t with _|d;simp[g]at h;cases d with
 |slice e=>
  simp only[g]at h;rcases G:T.inf e with _|q;simp[G]at h;obtain⟨sz,M,z⟩:=q;simp only[G]at h;rcases j:ble (n*sz) 16777216 with _|_;simp[j]at h;simp only[j,zC]at h;rcases o:ble n 16777216 with _|_;simp[o]at h;simp only[o,zC]at h;rcases p:Nat.beq z.cells.toList.length sz with _|_;simp only[p,zD]at h;cases h;simp only[p,zC]at h;rcases w:qN z.cells.toList with _|zu;simp[w]at h;simp only[w]at h;have O:=(Ax _ _ w).2 x;rcases E:rY (fun i=>some (i*sz,sz)) (y3 zu n) J with _|cs;simp[E]at h;simp only[E]at h;rcases F:I5 cs with _|_;simp[F]at h;simp only[F,zC,zA,zB]at h;obtain⟨rfl,rfl⟩:=h;obtain⟨P,f1,f2⟩:=Tl N (TD O n) E;have K:n<cP:=by have:=zY o;unfold cP;omega
  refine⟨.slice (some ⟨x.s.nx,0,none⟩) n n,_,?_,rfl,?_,bk c f2 F e⟩;simp only[Tt,g,G,j,p,zC,f1,y5 K];simp only[aD];exact⟨rfl,Ss rfl ⟨x.s.nx,rfl,rfl,K,zF _⟩⟩
 |_=>simp[g]at h
def z62{a b:U}{H J:I}(h:Pp T x.Y t a b=some (r,Y'))(E:aD x a H)(F:aD x b J):∃v y,Po T x.s t H J=some (v,y.s)/\y.Y=Y'/\aD y r v/\Out x y:=by
 unfold Pp at h;rcases g:T.G4 t with _|d;simp[g]at h;cases d with
 |slice e=>
  cases a with
  |int V a=>
   cases b with
   |int W b=>
    simp only[aD]at E F;subst E;subst F;simp only[g]at h;rcases G:T.inf e with _|q;simp[G]at h;obtain⟨sz,M,z⟩:=q;simp only[G]at h;rcases o:qN z.cells.toList with _|zu;simp[o]at h;simp only[o]at h;have P:=(Ax _ _ o).2 x;rcases p:I5 zu with _|_;simp[p]at h;simp only[p,zC]at h;rcases j:Nat.beq z.cells.toList.length sz with _|_;simp only[j,zD]at h;cases h;simp only[j,zC]at h;split at h;rename_i O;simp only[zA,zB]at h;obtain⟨rfl,rfl⟩:=h;obtain⟨Q,R,N,S⟩:=O;have K:i64.wrap a=Int.ofNat a.toNat:=by rw[wrap_i64 ag ag];simp;omega
    have L:i64.wrap b=Int.ofNat b.toNat:=by rw[wrap_i64 ag ag];simp;omega
    have w:b.toNat<cP:=by unfold cP;omega
    refine⟨.slice (some ⟨x.s.nx,0,none⟩) a.toNat b.toNat,_,?_,rfl,?_,bk c (TD (Z? P) b.toNat) (z7j (by rw[mw];exact p) _) e⟩;simp only[Po,g,G,K,L,j,zC,y5 w,tA N,tA<|show a.toNat<=b.toNat by omega];simp only[aD];exact⟨rfl,Ss rfl ⟨x.s.nx,rfl,rfl,w,by omega⟩⟩;cases h
   |_=>simp[g]at h
  |_=>simp[g]at h
 |_=>simp[g]at h
end
def T'{n b:Nat}(c:n*b<=140737488355328)(d:n<=140737488355328):DI n b=true:=by simp[DI,tA c,tA d]
variable{e:TypeId}
def Pd{s:S}{i off n:Nat}{l:X I}{d:Nat}(c:lk s.h i=some (.inl (l,e,d)))(h:off+n<=l.length):xA s (some ⟨i,off,none⟩) n=some ((l.drop off).take n):=by cases n with|zero=>simp[xA]|succ n=>simp only[xA,c];exact ub h
section
variable{T:Tb}{x:Cx}(f:jB x)
include f
variable{sz:Nat}{k:Nat}{new:X U}
def zb8(O:0<sz){u:U}{v:I}(h:wM x.Y sz u=some (k,new))(j:aD x u v):∃b c vs,C9 v=.slice b k c/\(v=.slice b k c\/k=0/\b=none/\c=0/\new=[]/\∃r,v=.chan (some r))/\xA x.s b (k*sz)=some vs/\aZ x new vs/\I5 new=true:=by
 unfold wM at h;cases u with
 |J=>simp only[zA,zB]at h;obtain⟨rfl,rfl⟩:=h;simp only[aD]at j;subst j;exact⟨none,0,[],rfl,.inl rfl,by rw[lg];rfl,aZ.nil x,rfl⟩
 |O t l=>simp only at h;split at h;rename_i N;simp only[zA,zB]at h;obtain⟨rfl,rfl⟩:=h;simp only[aD]at j;obtain⟨rfl,rfl |⟨r,rfl⟩⟩|⟨i,off,c,rfl,_,g⟩:=j;exact⟨none,0,[],rfl,.inl rfl,by rw[zS,lg];rfl,aZ.nil x,rfl⟩;exact⟨none,0,[],rfl,.inr ⟨rfl,rfl,rfl,rfl,r,rfl⟩,by rw[zS,lg];rfl,aZ.nil x,rfl⟩;by_cases y:l=[];subst y;exact⟨_,c,[],rfl,.inl rfl,by rw[zS,lg];rfl,aZ.nil x,rfl⟩;obtain g |⟨row,e,o,g1,g2,g3⟩:=g;exact absurd g y;have:=z37 g2 y N;subst this;obtain⟨f1,f2⟩:=qss g2;have M:=pa g2;rw[oy]at M;have:0<l.length*o:=Gk (by cases l<;>simp_all) O;exact⟨_,c,_,rfl,.inl rfl,Pd g1 ag,f1,f2⟩;cases h
 |sl w off n c=>simp only at h;rcases g:rowOf x.Y w with _|l;simp[g]at h;simp only[g]at h;rcases d:lW l off (n*sz)with _|cs;simp[d]at h;simp only[d,zA,zB]at h;obtain⟨rfl,rfl⟩:=h;obtain⟨e,z,p⟩:=qon g;obtain⟨i,G,rfl,_⟩:=Lu p j;obtain⟨_,W,i',lv,F,P,J⟩:=f.ok w _ z;rw[G]at F;cases F;obtain⟨s1,E⟩:=z3f d J;obtain⟨q1,rfl⟩:=UI d;exact⟨_,c,_,rfl,.inl rfl,Pd P (by rw[<-J.2];exact q1),Z? E,by rw[mw];exact UE (H8 W _) _⟩
 |vl w st off n=>simp only at h;rcases C:oR x.Y w st with _|q;simp[C]at h;obtain⟨l,e,o⟩:=q;obtain⟨z,p⟩:=qjx C;simp only[C,beq_eq]at h;by_cases L:o=sz;subst L;simp only[yC,zC]at h;rcases d:lW l (off*o) (n*o)with _|cs;simp[d]at h;simp only[d,zA,zB]at h;obtain⟨rfl,rfl⟩:=h;obtain⟨q1,rfl⟩:=UI d;by_cases V:n=0;subst V;obtain⟨_,_,_,_,Z⟩:=Lt p j;obtain⟨b,c,rfl⟩:=z99 Z;exact⟨b,c,[],rfl,.inl rfl,by rw[lg];rfl,by simpa using aZ.nil x,by simp[I5]⟩;obtain⟨i,l0,e0,Rg,l',Q,h2,rfl,R,K,h6,S⟩:=qqp f p j ag;have:=z.symm.trans Q;cases this;obtain⟨s1,E⟩:=z3f d K;exact⟨_,_,_,rfl,.inl rfl,Pd R (by rw[<-K.2];exact q1),E,UE (H8 S _) _⟩;simp[L]at h
 |_=>simp at h
omit f in
def qol{l:X U}{e:TypeId}{sz N:Nat}{c:m9}:aD ⟨mO x.Z x.Y.nx (some x.s.nx),cc x.Y (.vec l e sz 0),⟨(x.s.nx,c)::x.s.h,x.s.nx+1⟩⟩ (.vl x.Y.nx 0 0 N) (.slice (some ⟨x.s.nx,0,none⟩) N cP):=by simp only[aD];refine⟨rfl,by simp[cc],fun b d=>?_⟩;simp only[cc,aV,It,zA]at d;subst d;exact⟨zF _,fun _=>⟨l,e,sz,rfl,by simp[mO,IV]⟩⟩
omit f in
def YA{e:TypeId}{sz:Nat}{o:A Addr}(d:∀a,o=some a->a.spot=none):aD ⟨mO x.Z x.Y.nx none,cc x.Y (.vec [] e sz 0),x.s⟩ (.vl x.Y.nx 0 0 0) (.slice o 0 0):=by simp only[aD];refine⟨rfl,by simp[cc],fun b c=>?_⟩;simp only[cc,aV,It,zA]at c;subst c;exact⟨zF _,fun _=>⟨[],e,sz,rfl,by simpa[mO,IV]using d⟩⟩
variable{t:TypeId}{g:TypeId}
def oM{J:TypeId}{d:Nat}{z:I}(C:T.G4 t=some (.slice e))(w:T.G4 g=some (.slice J))(G:T.inf e=some (sz+1,d,z))(L:Nat.beq z.cells.toList.length (sz+1)=true)
  {o:A Addr} (K:∀a,o=some a->a.spot=none) {b:A Addr} {c:Nat} {vs:X I} (j:xA x.s b (k*(sz+1))=some vs) (p:aZ x new vs) (E:I5 new=true) (F:new.length=k*(sz+1)) (q:k*d<=140737488355328/\k<=140737488355328):
  ∃v y,y6 T x.s t g (.slice o 0 0) (.slice b k c)=some (v,y.s)/\y.Y=cc x.Y (.vec new e (sz+1) 0)/\aD y (.vl x.Y.nx 0 0 k) v/\Out x y/\(0<k->∃b n c,v=.slice (some b) n c):=by cases k with|zero=>have:new=[]:=X0 (by rw[F];simp);subst this;rw[p.L7]at j;refine⟨.slice o 0 0,⟨mO x.Z x.Y.nx none,cc x.Y<|.vec [] e (sz+1) 0,x.s⟩,?_,rfl,YA K,gk f e (sz+1) ag,fun h=>ag⟩;simp only[y6,DW,C9,zD,B8,C,w,G,j,xD,zC,M0];rfl|succ k=>refine⟨.slice (some ⟨x.s.nx,0,none⟩) (k+1) cP,_,?_,rfl,qol,qoc f p E e ag,fun _=>⟨_,_,_,rfl⟩⟩;simp only[y6,DW,C9,zD,B8,C,w,G,j,bf p E,zC,Ku,M0,L,Wy,T' q.1 q.2,Rx.newRow]
def ed{w:TypeId}{d:Nat}{z:I}(L:T.G4 t=some (.slice e))(q:T.G4 g=some (.slice w))(G:T.inf e=some (sz+1,d,z))(P:Nat.beq z.cells.toList.length (sz+1)=true)
  {o:A Addr} (N:∀a,o=some a->a.spot=none) {b:A Addr} {c:Nat} {vs:X I} (K:xA x.s b (k*(sz+1))=some vs) (O:aZ x new vs) (M:I5 new=true) (j:new.length=k*(sz+1)) (p:k*d<=140737488355328/\k<=140737488355328):
  ∃v y,y6 T x.s t g (.slice o 0 0) (.slice b k c)=some (v,y.s)/\y.Y=cc x.Y (.vec new e (sz+1) 0)/\aD y (.vl x.Y.nx 0 0 k) v/\Out x y:=by obtain⟨v,y,C,E,F,J,_⟩:=oM f L q G P N K O M j p;exact⟨v,y,C,E,F,J⟩
def Bf{K:Nat}{l l1:X U}{st:Nat}(c:gt x.Y.h K=some (.vec l e sz st))(o:A Nat)(d:S)(N:∀i b,lk x.s.h i=some b->x.Z K≠some i->lk d.h i=some b)(M:∀i,o=some i->x.Z K=some i\/x.s.nx<=i)
  (L:∀i b,lk d.h i=some b->i<d.nx) (j:I5 l1=true) (F:∀y:Cx,y.s=d->Mo x.Y.nx x y->l1=[]/\o=none\/∃i p,o=some i/\lk d.h i=some (.inl (p,e,sz+2))/\aZ y l1 p):
  Out x ⟨mO x.Z K o,⟨ug x.Y.h K<|.vec l1 e sz<|st+1,x.Y.nx⟩,d⟩:=by have C:0<sz:=(f.ok K _ c).2.2.1;refine kB f K (.vec l1 e sz<|st+1) (zF _) (f.ok K _ c).1 (fun k j=>⟨by simp[bT,Wv j],S! _ _ j⟩) (by simp[bT,c]) (.inl ⟨_,c,Wt _,fun h=>by simp[B.st]at h⟩) (fun i b J z=>N i b J<|z _ c) (fun i G=>?_) L (fun hm=>⟨j,C,?_⟩);change mO _ _ _ _=some i at G;rw[Zw]at G;obtain h |h:=M i G;exact .inl ⟨_,c,h⟩;exact .inr h;obtain⟨q,w⟩|⟨i,p,q,w,E⟩:=F _ rfl hm;exact .inl ⟨q,by simp[mO,w]⟩;exact .inr ⟨i,p,by simp[mO,q],w,E⟩
omit f in
def Aw{K:Nat}{l j:X U}{e:TypeId}{sz st N:Nat}(f:jB x)(d:gt x.Y.h K=some (.vec l e sz st)){o:A Nat}{q:S}{v:I}(p:v.oneCell'=true)(h:IV 0 N v sz o):
  aD ⟨mO x.Z K o,⟨ug x.Y.h K (.vec j e sz (st+1)),x.Y.nx⟩,q⟩ (.vl K (st+1) 0 N) v:=by simp only[aD];refine⟨p,(f.ok K _ d).1,fun b c=>?_⟩;simp only[bT,It,d,zM,zA]at c;subst c;exact⟨zF _,fun _=>⟨j,e,sz,rfl,by simpa[mO]using h⟩⟩
omit f in
def zb7{sz:Nat}{u:U}{k:Nat}{new:X U}(h:wM x.Y sz u=some (k,new)):new.length=k*sz:=by
 unfold wM at h;cases u with
 |J=>simp only[zA,zB]at h;obtain⟨rfl,rfl⟩:=h;simp
 |O t l=>
  simp only at h;split at h;rename_i p;simp only[zA,zB]at h;obtain⟨rfl,rfl⟩:=h;have:=z7o p;clear p;induction l with
  |nil=>simp|cons c l J=>have C:=this c ca;have E:=J fun d F=>this d (by simp[F]);simp only[Wx,zU,zO,eF,E,C];omega
  cases h
 |sl o off n c=>simp only at h;rcases s:rowOf x.Y o with _|l;simp[s]at h;simp only[s]at h;rcases j:lW l off (n*sz)with _|cs;simp[j]at h;simp only[j,zA,zB]at h;obtain⟨rfl,rfl⟩:=h;obtain⟨q1,rfl⟩:=UI j;rw[RG];simp;omega
 |vl o st off n=>simp only at h;rcases w:oR x.Y o st with _|q;simp[w]at h;obtain⟨l,e,z⟩:=q;simp only[w,beq_eq]at h;by_cases y:z=sz;simp only[y,yC,zC]at h;rcases j:lW l (off*sz) (n*sz)with _|cs;simp[j]at h;simp only[j,zA,zB]at h;obtain⟨rfl,rfl⟩:=h;obtain⟨q1,rfl⟩:=UI j;simp;omega;simp[y]at h
 |_=>simp at h
def qxp{a b r:U}{H vb:I}{Y':Sg}(h:DO T x.Y t g a b=some (r,Y'))(V:aD x a H)(w:aD x b vb):∃v y,y6 T x.s t g H vb=some (v,y.s)/\y.Y=Y'/\aD y r v/\Out x y:=by
 unfold DO at h;rcases F:T.G4 t with _|d;simp[F]at h;cases d with
 |slice e=>
  rcases J:T.G4 g with _|d2;simp[F,J]at h;cases d2 with
  |slice e2=>
   simp only[F,J]at h;rcases G:T.inf e with _|q;simp[G]at h;obtain⟨sz,by_,z⟩:=q;cases sz with
   |zero=>simp[G]at h|succ sz=>
    simp only[G]at h;rcases Q:Nat.beq z.cells.toList.length (sz+1)with _|_;simp only[Q,zD]at h;cases h;simp only[Q,zC]at h;rcases FU:wM x.Y (sz+1) b with _|q;simp[FU]at h;obtain⟨k,new⟩:=q;simp only[FU]at h;have R:=zb7 FU;obtain⟨bb,c,vs,yW,_,M,L,P⟩:=zb8 f ag FU w;have happ:∀S,y6 T x.s t g S vb=y6 T x.s t g S (.slice bb k c):=fun S=>by unfold y6;rw[yW];simp only[C9,DW,zD]
    rw[happ];cases a with
    |J=>simp only at h;split at h;rename_i N;simp only[zA,zB]at h;obtain⟨rfl,rfl⟩:=h;simp only[aD]at V;subst V;exact ed f F J G Q ca M L P R N;cases h
    |O tt l=>
     obtain _|_:=tt;simp at h;cases l with
     |cons _ _=>simp at h|nil=>
      simp only at h;split at h;rename_i N;simp only[zA,zB]at h;obtain⟨rfl,rfl⟩:=h;simp only[aD]at V;obtain⟨_,rfl |⟨rr,rfl⟩⟩|⟨i,off,c1,rfl,h2,_⟩:=V;exact ed f F J G Q ca M L P R N.2;obtain⟨v,y,h1,h2,h3,h4,h5⟩:=oM (T:=T) f F J G Q (o:=none) ca M L P R N.2;obtain⟨b1,n1,c1,rfl⟩:=h5 N.1;have h0:B8 T x.s t g (.slice none 0 0) (.slice bb k c)=some (.slice (some b1) n1 c1,y.s):=by simpa only[y6,DW,C9,zD]using h1
      exact⟨_,y,by simp only[y6,DW,C9,zC,zD,h0],h2,h3,h4⟩;obtain⟨rfl,_⟩:=h2 trivial;exact ed f F J G Q ca M L P R N.2;cases h
    |sl k' off n cp=>
     cases n with|succ n=>simp at h|zero=>
     cases cp with|succ cp=>simp at h|zero=>
     simp only at h;rcases dP:rowOf x.Y k' with _|l;simp[dP]at h;simp only[dP]at h;obtain⟨O,C,hl⟩:=qon dP;obtain⟨i,jZ,hva,RM,_⟩:=Lu hl V;split at h;rename_i N;simp only[zA,zB]at h;obtain⟨rfl,rfl⟩:=h;subst hva;exact ed f F J G Q ca M L P R N;cases h
    |vl K st off n=>
     simp only at h;rcases C:gt x.Y.h K with _|b0;simp[C]at h;cases b0 with
     |vec l O gT bA=>
      simp only[C,beq_eq]at h;by_cases cQ:bA=st;by_cases he:O=e;by_cases dV:gT=sz+1;subst cQ;subst he;subst dV;simp only[yC,zC]at h;rcases hs:lW l (off*(sz+1)) (n*(sz+1))with _|p;simp[hs]at h;simp only[hs]at h;split at h;rename_i N;obtain⟨r1,r2,r3⟩:=N;simp only[zA,zB]at h;obtain⟨rfl,rfl⟩:=h;obtain⟨l0,e0,Rg,tR,oH⟩:=Lt (x:=x) (by simp[live,C,B.st]) V;have:=C.symm.trans tR;cases this;obtain⟨_,k1,k2,h3⟩:=f.ok K _ C;obtain⟨q1,rfl⟩:=UI hs;obtain⟨rfl,iL⟩|⟨i,W,e1,e2,e3⟩:=h3;rw[iL]at oH;obtain⟨rfl,rfl,o,rfl,ho⟩:=oH;cases k with
      |zero=>have:new=[]:=X0 (by rw[R];simp);subst this;rw[L.L7]at M;refine⟨.slice o 0 0,⟨mO x.Z K none,⟨ug x.Y.h K<|.vec [] O (sz+1)<|bA+1,x.Y.nx⟩,x.s⟩,?_,by simp,Aw f C rfl ⟨rfl,rfl,o,rfl,ho⟩,Bf f C none x.s (fun i b w _=>w) ca f.bd rfl (fun y _ _=>.inl ⟨rfl,rfl⟩)⟩;simp only[y6,DW,C9,zD,B8,F,J,G,M,xD,zC,M0];rfl|succ k=>refine⟨.slice (some ⟨x.s.nx,0,none⟩) (0+(k+1)) cP,⟨mO x.Z K<|some x.s.nx,⟨ug x.Y.h K<|.vec new O (sz+1)<|bA+1,x.Y.nx⟩,Rx.newRow x.s vs O<|sz+1+2⟩,?_,by simp,Aw f C rfl (.inr ca),Bf f C (some x.s.nx) _ (fun i b w _=>?_) (fun i G=>.inr (by cases G;exact zF _)) (fun i b w=>?_) P fun y hy hm=>.inr ⟨x.s.nx,vs,rfl,?_,hm.ke.E L.L5 L⟩⟩;simp only[y6,DW,C9,zD,B8,F,J,G,M,bf L P,zC,Ku,M0,Q,T' r1 r2];have:=f.bd i b w;simp[Rx.newRow,mD,show x.s.nx≠i by omega,w];simp only[Rx.newRow,mD]at w ⊢;split at w;omega;exact Xm<|f.bd i b w;simp[Rx.newRow,mD]
      rw[e1]at oH;obtain⟨h0,rfl,_⟩|rfl:=oH;omega;have w7:eQ x.s i=some (W,O,sz+1+2):=by simp[eQ,e2]
      have hcc:blt (cP+off) cP=false:=UB ag;have HN:cJ (cP+off)=off:=by simp[cJ]
      have Zo:wK W (off*(sz+1)) (n*(sz+1))=some ((W.drop<|off*(sz+1)).take (n*(sz+1))):=ub (by rw[<-e3.2];exact q1);have fG:Nat.beq (off*(sz+1)) (off*(sz+1))=true:=by simp
      cases k with
      |zero=>
       have:new=[]:=X0 (by rw[R];simp);subst this;rw[L.L7]at M;have h0:off=0/\n*(sz+1)=l.length:=by omega
       obtain⟨rfl,ze⟩:=h0;have hp:(l.drop<|0*(sz+1)).take (n*(sz+1))++[]=l:=by simp[ze]
       rw[hp];refine⟨.slice (some ⟨i,0*(sz+1),none⟩) n<|cP+0,⟨mO x.Z K<|some i,⟨ug x.Y.h K<|.vec l O (sz+1)<|bA+1,x.Y.nx⟩,x.s⟩,?_,by simp,Aw f C rfl (.inr rfl),Bf f C (some i) x.s (fun i b w _=>w) (fun j hj=>.inl (by cases hj;exact e1)) f.bd k1 fun y _ hm=>.inr ⟨i,W,rfl,e2,hm.ke.E e3.L5 e3⟩⟩;simp only[y6,DW,C9,zD,B8,F,J,G,M,xD,zC,hcc,zD,w7,beq_refl,HN,Zo]
      |succ k=>have m4:aZ x ((l.drop<|off*(sz+1)).take (n*(sz+1))++new) ((W.drop<|off*(sz+1)).take (n*(sz+1))++vs):=((e3.drop _).take _).append L;have hpk:=NG (UE (H8 k1<|off*(sz+1))<|n*(sz+1)) P;refine⟨.slice (some ⟨x.s.nx,0,none⟩) (n+(k+1)) cP,⟨mO x.Z K<|some x.s.nx,⟨ug x.Y.h K<|.vec ((l.drop<|off*(sz+1)).take (n*(sz+1))++new) O (sz+1)<|bA+1,x.Y.nx⟩,⟨(x.s.nx,.inl ((W.drop<|off*(sz+1)).take (n*(sz+1))++vs,O,sz+1+2))::rm x.s.h i,x.s.nx+1⟩⟩,?_,rfl,Aw f C rfl (.inr ca),Bf f C (some x.s.nx) _ (fun j b w cA=>?_) (fun i G=>.inr (by cases G;exact zF _)) (fun j b w=>?_) hpk fun y hy hm=>.inr ⟨x.s.nx,_,rfl,?_,hm.ke.E m4.L5 m4⟩⟩;simp only[y6,DW,C9,zD,B8,F,J,G,M,bf L P,zC,Ku,hcc,zD,w7,beq_refl,HN,Zo,Q,T' r1 r2];have:=f.bd j b w;have mY:i≠j:=fun h=>cA (by rw[e1,h]);simp[mD,Kt,show x.s.nx≠j by omega,mY,w];simp only[mD,Kt]at w ⊢;split at w;omega;split at w;cases w;exact Xm<|f.bd j b w;simp[mD]
      cases h;simp[cQ,he,dV]at h;simp[cQ,he]at h;simp[cQ]at h
     |_=>simp[C]at h
    |_=>simp at h
  |_=>simp[F,J]at h
 |_=>simp[F]at h
end
end Go.Vx
