import Derived.IntWalk
import Derived.Test.YtmflfedkfdkipaaGreatP4
set_option linter.all false
open List Go.IntKind
open Nat hiding beq_eq
namespace Go.Rx
open Go
def WP(P:Ua)(c:Code)(h:X Value)(s:S)(Q:Exit->X Value->S->Prop):Prop :=
 ∀m w a,gZ m s w->CU m s.nx h a->a.defers=[]->
  c.wp P (fun e f i=>∃g b d,Q e b d/\bS m s w g d i/\CU g d.nx b f/\f.defers=[]) a w
def Hy(s a:S):Prop:=s.nx<=a.nx/\∀i b,lk a.h i=some b->lk s.h i=some b
def bS.less{m:Nm}{s g:S}{w:Ep}(h:gZ m s w)(a:Hy s g):bS m s w m g w:=by refine⟨aP.refl _ _,a.1,fun q l=>?_,?_,fun _ _ _=>rfl,zF _,rfl,rfl,rfl⟩;have f:=h q<|l.mono a.1;exact⟨fun i b e=>f.ok i b<|a.2 i b e,fun i j b c e n=>f.inj i j b c (a.2 i b e)<|a.2 j c n,fun i b e=>YR (f.bd i b<|a.2 i b e) a.1⟩;rintro k ⟨j,d,o,p,rfl⟩;exact .inl ⟨j,d,a.2 j d o,p,rfl⟩
def oX{x:Int}(a : -9223372036854775808<=x)(b:x<=9223372036854775807):i64.wrap x=x:=IntWalk.i64_in x ⟨a,b⟩
section
variable{P:Ua}{Q:Exit->X Value->S->Prop}{tm:X Value}{s:S}
def WP.exit{id:Nat}(h:Q (.exit id) tm s):WP P (.exit id) tm s Q:=fun m _ _ c a b=>wp_exit ⟨m,tm,s,h,bS.refl c,a,b⟩
def qxh(id:Nat)(Q:Exit->X Value->S->Prop):Exit->X Value->S->Prop
 |.exit a,tm,s=>if a=id then Q .normal tm s else Q (.exit a) tm s|e,tm,s=>Q e tm s
def WP.block{id:Nat}{c:Code}(h:WP P c tm s (qxh id Q)):WP P (.block id c) tm s Q:=fun m w a q o p=>by
 refine wp_block<|wp_mono (h m w a q o p) ?_;rintro e r w' ⟨k,b,l,d,f,g,i⟩;cases e with
 |exit j=>simp[Exit.inBlock];simp[qxh]at d;by_cases n:j=id;simp[n,It]at d ⊢;exact⟨k,b,l,d,f,g,i⟩;simp[n,MF]at d ⊢;exact⟨k,b,l,d,f,g,i⟩|_=>exact⟨k,b,l,d,f,g,i⟩
variable{T:Tb}(a:jW P T){call:HN}(b:Mh P call)
include a b
end
def p0(d:X Value)(op:Op):V Value :=
 match op with
 |.move x=>F8 d x|.assign x=>F8 d x
 |.pick c a b=>match F8 d c with
  |some (.bool true)=>F8 d a|some (.bool false)=>F8 d b
  |_=>none
 |.nilCheck x=>match F8 d x with
  |some (.pointer<|some a)=>some (.pointer<|some a)|_=>none
 |.binOp op _ x y _=>match F8 d x,F8 d y with
  |some (.int k a),some (.int e b)=>lI op k a e b|_,_=>none
 |.unOp op _ x=>match F8 d x with
  |some a=>TX op a|none=>none
 |.makeFunc fn first cap=>match qI d first.toList,qI d cap.toList with
  |some a,some b=>some (.func fn a.toArray b.toArray)|_,_=>none
 |.extract x i=>match F8 d x with
  |some a=>Nf a i|none=>none
 |.call c=>match c.callee with
  |.builtin .max=>match qI d c.args.toList with
   |some (x::l)=>yZ UL x l|_=>none
  |.builtin .min=>match qI d c.args.toList with
   |some (x::l)=>yZ UK x l|_=>none
  |_=>none
 |_=>none
section
variable{T:Tb}{call:HN}{a rest:X Oper}{o:Oper}{tm:X Value}{s:S}{K:X Value->S->Prop}
end
section
variable{P:Ua}{Q:Exit->X Value->S->Prop}{tm:X Value}{s:S}{T:Tb}(a:jW P T){call:HN}(b:Mh P call)
include a b
end
end Go.Rx
namespace Go.Vx
open Go Go.Rx
inductive U where
 |J9
 |bool (b:Bool)
 |int (k:IntKind) (n:Int)
 |str (s:List UInt8)
 |b6
 |ptr (k st off:Nat)
 |b4 (l:List U)
 |J
 |sl (k off n c:Nat)
 |vl (k st off n:Nat)
 |O (t:Bool) (l:List (List U))
 |e6
 |map (k:Nat)
 |fn (f:Fn) (first cap:List U)
 |e9
 |k9
 |agg (l:List U)
 |a7 (l:List U)
 deriving Inhabited
def U6:U->FK
 |.J9=>false|.agg _=>false
 |.a7 _=>false|_=>true
def I8:X U->FK
 |[]=>true|u::l=>cond (U6 u) (I8 l) false
def NX(l:X U):I8 l=true↔∀u∈l,U6 u=true:=by induction l with|nil=>simp[I8]|cons u l a=>cases h:U6 u<;>simp[I8,h,a]
structure ME where
 key:U
 val:U
 born:Nat
inductive B where
 |row (l:List U) (e:TypeId)
 |vec (l:List U) (e:TypeId) (sz st:Nat)
 |map (es:List ME) (cl:Nat)
structure Sg where
 h:X (Nat×B)
 nx:Nat
def gt:X (Nat×B)->Nat->V B
 |[],_=>none|(j,b)::h,i=>cond (Nat.beq j i) (some b) (gt h i)
def ug:X (Nat×B)->Nat->B->X (Nat×B)
 |[],_,_=>[]|(j,b)::h,i,c=>cond (Nat.beq j i) ((j,c)::h) ((j,b)::ug h i c)
def rg:X (Nat×B)->Nat->X (Nat×B)
 |[],_=>[]|(j,b)::h,i=>cond (Nat.beq j i) (rg h i) ((j,b)::rg h i)
def aR(j:Nat)(b:B)(h:X (Nat×B))(i:Nat):gt ((j,b)::h) i=if j=i then some b else gt h i:=by simp only[gt,beq_eq];by_cases e:j=i<;>simp[e]
def bV(h:X (Nat×B))(i:Nat)(c:B)(j:Nat):gt (ug h i c) j=if i=j then(gt h i).map (fun _=>c)else gt h j:=by induction h with|nil=>simp[ug,gt]|cons x h f=>have⟨k,b⟩:=x;simp[ug,beq_eq];by_cases e:k=i;subst e;simp[yC,zC,aR];by_cases a:k=j<;>simp[a];simp[e,yB,zD,aR,f];by_cases a:i=j;subst a;simp[e];by_cases d:k=j<;>simp[a,d]
def xj(h:X (Nat×B))(i j:Nat):gt (rg h i) j=if i=j then none else gt h j:=by induction h with|nil=>simp[rg,gt]|cons x h c=>have⟨k,b⟩:=x;simp[rg,beq_eq];by_cases e:k=i;subst e;simp[yC,zC,aR,c];by_cases a:k=j<;>simp[a];simp[e,yB,zD,aR,c];by_cases a:i=j;subst a;simp[e];by_cases d:k=j<;>simp[a,d]
def B.st:B->Nat
 |.vec _ _ _ st=>st|_=>0
structure Cx where
 I:Nat->V Nat
 Y:Sg
 s:S
def Ref(x:Cx)(k st:Nat)(p:V Nat->Prop):Prop:=k<x.Y.nx/\∀b,gt x.Y.h k=some b->st<=b.st/\(st=b.st->p (x.I k))
def N7(off n:Nat)(v:Value)(b:Nat):V Nat->Prop
 |none=>off=0/\n=0/\∃o,v=.slice o 0 0/\∀a,o=some a->a.spot=none|some i=>(0<off/\n=0/\∃a c,v=.slice (some a) 0 c/\a.spot=none)\/v=.slice (some ⟨i,off*b,none⟩) n (dC+off)
mutual
def aF(x:Cx):U->Value->Prop
 |.J9,_=>True|.bool b,v=>v=.bool b
 |.int k n,v=>v=.int k n|.str l,v=>v=.string ⟨⟨l⟩⟩
 |.b6,v=>v=.pointer none|.ptr k st off,v=>v.oneCell'=true/\Ref x k st fun o=>∃i,o=some i/\v=.pointer (some ⟨i,off,none⟩)
 |.b4 l,v=>∃i off row e,v=.pointer (some ⟨i,off,none⟩)/\lk x.s.h i=some (.inl (row,e,1))/\cJ x l (row.drop off)/\I8 l=true|.J,v=>v=.slice none 0 0
 |.sl k off n c,v=>v.oneCell'=true/\Ref x k 0 fun o=>∃i,o=some i/\v=.slice (some ⟨i,off,none⟩) n c/\c<dC/\n<=c
 |.vl k st off n,v=>v.oneCell'=true/\k<x.Y.nx/\∀b,gt x.Y.h k=some b->st<=b.st/\(st=b.st->∃l e d,b=.vec l e d st/\N7 off n v d (x.I k))|.O t l,v=>(l=[]/\(v=.slice none 0 0\/∃r,v=.chan (some r)))\/∃i off c,v=.slice (some ⟨i,off,none⟩) l.length c/\(t=true->c=l.length/\c<dC)/\
   (l=[]\/∃row e d,lk x.s.h i=some (.inl (row,e,1))/\iS x d l (row.drop off)/\ ((c<dC/\l.length<=c)\/(dC<=c/\e=d+1/\0<d/\off=dA c*d/\off+l.length*d<=row.length)))
 |.e6,v=>v=.map none|.map k,v=>v.oneCell'=true/\Ref x k 0 fun o=>∃i,o=some i/\v=.map (some i)
 |.fn f a b,v=>∃j m,v=.func f ⟨j⟩ ⟨m⟩/\cJ x a j/\a.length=j.length/\cJ x b m/\b.length=m.length|.e9,v=>v=.nilFunc
 |.k9,v=>v=.nilIface|.agg l,v=>∃g,v=.agg ⟨g⟩/\cJ x l g/\l.length=g.length/\I8 l=true
 |.a7 l,v=>∃g,v=.tuple ⟨g⟩/\cJ x l g/\l.length=g.length
def cJ(x:Cx):X U->X Value->Prop
 |[],_=>True|u::b,a=>match a with
  |[]=>False|v::a=>aF x u v/\cJ x b a
def iS(x:Cx)(a:Nat):X (X U)->X Value->Prop
 |[],_=>True|c::d,b=>c.length=a/\I8 c=true/\cJ x c b/\iS x a d (b.drop a)
end
mutual
def aW(n:Nat):U->Prop
 |.ptr k _ _=>k<n|.sl k _ _ _=>k<n
 |.vl k _ _ _=>k<n|.map k=>k<n
 |.b4 l=>aH n l|.O _ l=>lU n l
 |.fn _ a b=>aH n a/\aH n b|.agg l=>aH n l
 |.a7 l=>aH n l|_=>True
def aH(n:Nat):X U->Prop
 |[]=>True|u::a=>aW n u/\aH n a
def lU(n:Nat):X (X U)->Prop
 |[]=>True|c::a=>aH n c/\lU n a
end
def JL(x:Cx):∀(l:X U)(b:X Value),cJ x l b↔∀(i:Nat)(u:U),l[i]? = some u->∃v,b[i]? = some v/\aF x u v
 |[],b=>by simp[cJ]
 |u::e,[]=>by simp only[cJ,ML];intro h;have⟨v,f,_⟩:=h 0 u rfl;simp at f
 |u::e,v::b=>by
  simp[cJ,JL x e b];constructor;rintro⟨c,d⟩ i w a;cases i with
  |zero=>simp at a;subst a;exact⟨v,rfl,c⟩|succ i=>simp at a;simpa using d i w a
  intro h;refine⟨?_,fun i w a=>by simpa using h (i+1) w (by simpa using a)⟩;have⟨g,c,d⟩:=h 0 u rfl;simp at c;subst c;exact d
def y4(n:Nat):∀l:X U,aH n l↔∀u∈l,aW n u
 |[]=>by simp[aH]
 |u::a=>by simp[aH,y4 n a]
def Ni(n:Nat):∀l:X (X U),lU n l↔∀c∈l,aH n c
 |[]=>by simp[lU]
 |u::a=>by simp[lU,Ni n a]
structure Mo(n:Nat)(x y:Cx):Prop where
 ref:∀k,k<n->k<x.Y.nx->k<y.Y.nx/\∀b',gt y.Y.h k=some b'->∃b,gt x.Y.h k=some b/\b.st<=b'.st/\(b.st=b'.st->y.I k=x.I k/\∀l e sz st,b=.vec l e sz st->∃l',b'=.vec l' e sz st)
 l9:∀i row e,lk x.s.h i=some (.inl (row,e,1))->lk y.s.h i=some (.inl (row,e,1))
variable{n:Nat}{x:Cx}{y:Cx}
def Mo.oZ(h:Mo n x y){k st:Nat}{p:V Nat->Prop}(o:k<n)(q:Ref x k st p):Ref y k st p:=by
 have⟨l,m⟩:=q;have⟨g1,g2⟩:=h.ref k o l;refine⟨g1,fun a c=>?_⟩;have⟨b,d,f,g⟩:=g2 a c;have⟨i,j⟩:=m b d;refine⟨Zt i f,fun e=>?_⟩;have:b.st=a.st:=by omega
 rw[(g this).1];exact j af
mutual
def aF.mono{n:Nat}{x y:Cx}(h:Mo n x y):(u:U)->(v:Value)->aW n u->aF x u v->aF y u v
 |.J9,v,_,_=>by simp[aF]
 |.bool b,v,_,S=>by simpa[aF]using S
 |.int k z,v,_,S=>by simpa[aF]using S
 |.str l,v,_,S=>by simpa[aF]using S
 |.b6,v,_,S=>by simpa[aF]using S
 |.ptr k st off,v,d,S=>by simp[aF]at*;exact⟨S.1,h.oZ (by simpa[aW]using d) S.2⟩
 |.b4 l,v,d,S=>by simp only[aF]at*;have⟨i,off,row,e,g,j,o,r⟩:=S;exact⟨i,off,row,e,g,h.l9 _ _ _ j,cJ.mono h l _ (by simpa[aW]using d) o,r⟩
 |.J,v,_,S=>by simpa[aF]using S
 |.sl k off m c,v,d,S=>by simp[aF]at*;exact⟨S.1,h.oZ (by simpa[aW]using d) S.2⟩
 |.vl k st off m,v,d,S=>by
  simp[aF]at*;have⟨N,g,j⟩:=S;have⟨g1,g2⟩:=h.ref k (by simpa[aW]using d) g;refine⟨N,g1,fun A B=>?_⟩;have⟨b,D,E,F⟩:=g2 A B;have⟨G,H⟩:=j b D;refine⟨Zt G E,fun e=>?_⟩;have I:b.st=A.st:=by omega
  have⟨l,C,s,J,K⟩:=H af;have⟨L,p⟩:=F I;have⟨P,q⟩:=p _ _ _ _ J;rw[L];exact⟨P,C,s,q,K⟩
 |.O t l,v,d,S=>by simp only[aF]at*;obtain S |⟨i,off,c,g,j,o⟩:=S;exact .inl S;refine .inr ⟨i,off,c,g,j,?_⟩;obtain o |⟨row,e,s,g1,g2,M⟩:=o;exact .inl o;exact .inr ⟨row,e,s,h.l9 _ _ _ g1,iS.mono h l _ (by simpa[aW]using d) g2,M⟩
 |.e6,v,_,S=>by simpa[aF]using S
 |.map k,v,d,S=>by simp[aF]at*;exact⟨S.1,h.oZ (by simpa[aW]using d) S.2⟩
 |.fn f a b,v,d,S=>by simp[aF]at*;have⟨Q,R,g,j,o,r,O⟩:=S;simp[aW]at d;exact⟨Q,R,g,cJ.mono h a _ d.1 j,o,cJ.mono h b _ d.2 r,O⟩
 |.e9,v,_,S=>by simpa[aF]using S
 |.k9,v,_,S=>by simpa[aF]using S
 |.agg l,v,d,S=>by simp[aF]at*;have⟨w,g,j,o⟩:=S;exact⟨w,g,cJ.mono h l _ (by simpa[aW]using d) j,o⟩
 |.a7 l,v,d,S=>by simp[aF]at*;have⟨w,g,j,o⟩:=S;exact⟨w,g,cJ.mono h l _ (by simpa[aW]using d) j,o⟩
def cJ.mono{n:Nat}{x y:Cx}(h:Mo n x y):(l:X U)->(a:X Value)->aH n l->cJ x l a->cJ y l a
 |[],_,_,_=>by simp[cJ]
 |u::c,[],_,d=>by simp[cJ]at d
 |u::c,v::a,b,d=>by simp[cJ,aH]at*;exact⟨aF.mono h u v b.1 d.1,cJ.mono h c a b.2 d.2⟩
def iS.mono{n d:Nat}{x y:Cx}(h:Mo n x y):(l:X (X U))->(a:X Value)->lU n l->iS x d l a->iS y d l a
 |[],_,_,_=>by simp[iS]
 |c::e,a,b,f=>by simp[iS,lU]at*;exact⟨f.1,f.2.1,cJ.mono h c a b.1 f.2.2.1,iS.mono h e _ b.2 f.2.2.2⟩
end
mutual
def aF.K3{x:Cx}:(u:U)->(v:Value)->aF x u v->aW x.Y.nx u
 |.ptr k st off,v,s=>by simp[aF,aW]at*;exact s.2.1
 |.sl k off m c,v,s=>by simp[aF,aW]at*;exact s.2.1
 |.vl k st off m,v,s=>by simp[aF,aW]at*;exact s.2.1
 |.map k,v,s=>by simp[aF,aW]at*;exact s.2.1
 |.b4 l,v,s=>by simp only[aF,aW]at*;have⟨i,off,row,e,h,d,g,_⟩:=s;exact cJ.K3 l _ g
 |.O t l,v,s=>by simp[aF,aW]at*;obtain⟨rfl,_⟩|⟨i,off,c,h,d,g⟩:=s;simp[lU];obtain rfl |⟨row,e,sz,g1,g2,_⟩:=g;simp[lU];exact iS.K3 l _ g2
 |.fn f a b,v,s=>by simp[aF,aW]at*;have⟨q,r,h,d,g,j,p⟩:=s;exact⟨cJ.K3 a _ d,cJ.K3 b _ j⟩
 |.agg l,v,s=>by simp[aF,aW]at*;have⟨o,h,d,g⟩:=s;exact cJ.K3 l _ d
 |.a7 l,v,s=>by simp[aF,aW]at*;have⟨o,h,d,g⟩:=s;exact cJ.K3 l _ d
 |.J9,_,_=>by simp[aW]
 |.bool _,_,_=>by simp[aW]
 |.int _ _,_,_=>by simp[aW]
 |.str _,_,_=>by simp[aW]
 |.b6,_,_=>by simp[aW]
 |.J,_,_=>by simp[aW]
 |.e6,_,_=>by simp[aW]
 |.e9,_,_=>by simp[aW]
 |.k9,_,_=>by simp[aW]
def cJ.K3{x:Cx}:(l:X U)->(a:X Value)->cJ x l a->aH x.Y.nx l
 |[],_,_=>by simp[aH]
 |u::b,[],c=>by simp[cJ]at c
 |u::b,v::a,c=>by simp[cJ,aH]at*;exact⟨aF.K3 u v c.1,cJ.K3 b a c.2⟩
def iS.K3{x:Cx}{sz:Nat}:(l:X (X U))->(a:X Value)->iS x sz l a->lU x.Y.nx l
 |[],_,_=>by simp[lU]
 |c::b,a,d=>by simp[iS,lU]at*;exact⟨cJ.K3 c a d.2.2.1,iS.K3 b _ d.2.2.2⟩
end
def bD(x:Cx)(l:X U)(a:X Value):Prop:=cJ x l a/\l.length=a.length
variable{l:X U}{vs:X Value}{u:U}
def bD.get(h:bD x l vs){i:Nat}(a:l[i]? = some u):∃v,vs[i]? = some v/\aF x u v:=(JL x l vs).1 h.1 i u a
def bD.mk'(a:l.length=vs.length)(h:∀(i:Nat)(u:U),l[i]? = some u->∃v,vs[i]? = some v/\aF x u v):bD x l vs:=⟨(JL x l vs).2 h,a⟩
def bD.nil(x:Cx):bD x [] []:=⟨by simp[cJ],rfl⟩
def bD.cons{v:Value}(h:aF x u v)(a:bD x l vs):bD x (u::l) (v::vs):=⟨by simp[cJ,h,a.1],by simp[a.2]⟩
def bD.inv(h:bD x (u::l) vs):∃v c,vs=v::c/\aF x u v/\bD x l c:=by have⟨a,b⟩:=h;obtain _|⟨v,vs⟩:=vs;simp at b;simp[cJ]at a;exact⟨v,vs,rfl,a.1,a.2,by simpa using b⟩
def bD.K4(h:bD x [] vs):vs=[]:=by have:=h.2;simpa using this.symm
def bD.append{a b:X U}{c d:X Value}(h:bD x a c)(e:bD x b d):bD x (a++b) (c++d):=by induction a generalizing c with|nil=>rw[h.K4];exact e|cons u a i=>obtain⟨v,vs,rfl,f,g⟩:=h.inv;exact bD.cons f (i g)
def bD.drop{x:Cx}{a:X U}{c:X Value}(h:bD x a c)(n:Nat):bD x (a.drop n) (c.drop n):=by refine bD.mk' (by simp[h.2]) fun i u b=>?_;rw[pc]at b ⊢;exact h.get b
def bD.take{x:Cx}{a:X U}{c:X Value}(h:bD x a c)(n:Nat):bD x (a.take n) (c.take n):=by refine bD.mk' (by simp[h.2]) fun i u b=>?_;rw[jz]at b ⊢;split at b;rename_i d;simp[d,It];exact h.get b;cases b
def bD.set{x:Cx}{a:X U}{d:X Value}(h:bD x a d)(n:Nat){u:U}{v:Value}(g:aF x u v):bD x (a.set n u) (d.set n v):=by refine bD.mk' (by simp[h.2]) fun i w b=>?_;rw[ja]at b ⊢;split at b;split at b;cases b;rename_i f c;subst f;rw[h.2]at c;simp[c,g];cases b;rename_i e;simp[e,MF];exact h.get b
def bD.mono{n:Nat}{x y:Cx}(h:Mo n x y){l:X U}{vs:X Value}(a:aH n l)(b:bD x l vs):bD y l vs:=⟨cJ.mono h l vs a b.1,b.2⟩
def cJ.kM(h:cJ x l vs):bD x l (vs.take l.length):=by
 refine bD.mk' ?_ fun i u a=>?_;obtain c |LF:=Zd vs.length l.length
 have a:l[vs.length]? = some l[vs.length]:=by simp[c]
 have⟨v,b,_⟩:=(JL x l vs).1 h _ _ a;simp at b;simp;omega;have⟨v,b,d⟩:=(JL x l vs).1 h i u a;have:i<l.length:=(zG.1 a).1;exact⟨v,by rw[jz];simp[this,b],d⟩
def cJ.len(h:cJ x l vs):l.length<=vs.length:=by have:=h.kM.2;rw[Yz]at this;omega
def cJ.drop{x:Cx}{l:X U}{vs:X Value}(h:cJ x l vs)(n:Nat):cJ x (l.drop n) (vs.drop n):=by rw[JL]at*;intro i u a;rw[pc]at a ⊢;exact h _ _ a
def yW(x:Cx)(a:X ME)(vs:X MapEntry):Prop:=a.length=vs.length/\∀(i:Nat)(e:ME),a[i]? = some e->∃v:MapEntry,vs[i]? = some v/\aF x e.key v.key/\aF x e.val v.val/\v.born=e.born
def oR(x:Cx)(k:Nat):B->Prop
 |.row l e=>I8 l=true/\∃i b,x.I k=some i/\lk x.s.h i=some (.inl (b,e,0))/\bD x l b|.vec l e c _=>I8 l=true/\0<c/\(l=[]/\x.I k=none\/∃i b,x.I k=some i/\lk x.s.h i=some (.inl (b,e,c+2))/\bD x l b)
 |.map f d=>∃i a,x.I k=some i/\lk x.s.h i=some (.inr (a,d))/\yW x f a
structure jV(x:Cx):Prop where
 ok:∀k b,gt x.Y.h k=some b->k<x.Y.nx/\oR x k b
 inj:∀k k' b b' i,gt x.Y.h k=some b->gt x.Y.h k'=some b'->x.I k=some i->x.I k'=some i->k=k'
 bd:∀i b,lk x.s.h i=some b->i<x.s.nx
def Fr(F:Nat->nT->Prop)(x:Cx):Prop:=∀i b,F i b->lk x.s.h i=some b/\∀k c,gt x.Y.h k=some c->x.I k≠some i
def Ke(n:Nat)(x y:Cx):Prop:=∀u v,aW n u->aF x u v->aF y u v
def Ke.refl(n:Nat)(x:Cx):Ke n x x:=fun _ _ _ h=>h
def Ke.trans{z:Cx}(h:Ke n x y)(h':Ke n y z):Ke n x z:=fun u v a b=>h' u v a (h u v a b)
mutual
def aW.le{n k:Nat}(h:n<=k):(u:U)->aW n u->aW k u
 |.ptr a _ _,c=>by simp[aW]at*;omega
 |.sl a _ _ _,c=>by simp[aW]at*;omega
 |.vl a _ _ _,c=>by simp[aW]at*;omega
 |.map a,c=>by simp[aW]at*;omega
 |.b4 l,c=>by simp[aW]at*;exact aH.le h l c
 |.O t l,c=>by simp[aW]at*;exact lU.le h l c
 |.fn f a b,c=>by simp[aW]at*;exact⟨aH.le h a c.1,aH.le h b c.2⟩
 |.agg l,c=>by simp[aW]at*;exact aH.le h l c
 |.a7 l,c=>by simp[aW]at*;exact aH.le h l c
 |.J9,_=>by simp[aW]
 |.bool _,_=>by simp[aW]
 |.int _ _,_=>by simp[aW]
 |.str _,_=>by simp[aW]
 |.b6,_=>by simp[aW]
 |.J,_=>by simp[aW]
 |.e6,_=>by simp[aW]
 |.e9,_=>by simp[aW]
 |.k9,_=>by simp[aW]
def aH.le{n k:Nat}(h:n<=k):(l:X U)->aH n l->aH k l
 |[],_=>by simp[aH]
 |u::b,a=>by simp[aH]at*;exact⟨aW.le h u a.1,aH.le h b a.2⟩
def lU.le{n k:Nat}(h:n<=k):(l:X (X U))->lU n l->lU k l
 |[],_=>by simp[lU]
 |u::b,a=>by simp[lU]at*;exact⟨aH.le h u a.1,lU.le h b a.2⟩
end
def Ke.le{n k:Nat}{x y:Cx}(h:Ke k x y)(b:n<=k):Ke n x y:=fun u v a c=>h u v (aW.le b u a) c
def Mo.ke(h:Mo n x y):Ke n x y:=fun u v a b=>aF.mono h u v a b
def Ke.E(h:Ke n x y)(d:aH n l)(e:bD x l vs):bD y l vs :=
 bD.mk' e.2 fun i u a=>by have⟨v,b,c⟩:=e.get a;exact⟨v,b,h u v ((y4 n l).1 d u (zX a)) c⟩
def bD.K3{x:Cx}{l:X U}{vs:X Value}(a:bD x l vs):aH x.Y.nx l:=cJ.K3 l vs a.1
mutual
def cf:U->V Value
 |.bool b=>some (.bool b)|.int k n=>some (.int k n)
 |.str s=>some (.string ⟨⟨s⟩⟩)|.b6=>some (.pointer none)
 |.J=>some (.slice none 0 0)|.e6=>some (.map none)
 |.e9=>some .nilFunc|.k9=>some .nilIface
 |.agg l=>cond (I8 l) (match mO l with
  |some vs=>some (.agg ⟨vs⟩)|none=>none) none
 |_=>none
def mO:X U->V (X Value)
 |[]=>some []|u::l=>match cf u with
  |some v=>(match mO l with
   |some vs=>some (v::vs)|none=>none)
  |none=>none
end
mutual
def kS:Value->V U
 |.bool b=>some (.bool b)|.int k n=>some (.int k n)
 |.string s=>some (.str s.data.toList)|.pointer none=>some .b6
 |.slice none n c=>match n,c with
  |0,0=>some .J|_,_=>none
 |.map none=>some .e6|.nilFunc=>some .e9
 |.nilIface=>some .k9|.agg ⟨l⟩=>match rN l with
  |some a=>cond (I8 a) (some<|.agg a) none|none=>none
 |_=>none
def rN:X Value->V (X U)
 |[]=>some []|v::l=>match kS v with
  |some u=>(match rN l with
   |some a=>some (u::a)|none=>none)
  |none=>none
end
def xX:U->V (X U)
 |.J9=>none|.a7 _=>none
 |.agg l=>some l|u=>some [u]
def cX(a:X U):He->V U
 |.tmp t=>nth a t|.const v=>kS v
 |.func f=>some (.fn (.func f) [] [])|.global _=>none
def pT(a:X U):X He->V (X U)
 |[]=>some []|x::l=>match cX a x with
  |some v=>(match pT a l with
   |some r=>some (v::r)|none=>none)
  |none=>none
def BW(a:X U):X (Nat×He)->V (X<|Nat×U)
 |[]=>some []|(i,x)::l=>match cX a x with
  |some v=>(match BW a l with
   |some r=>some ((i,v)::r)|none=>none)
  |none=>none
def D1(a:X U):V He->V (V Value)
 |none=>some none|some x=>match cX a x with
  |some (.int k n)=>some (some<|.int k n)|_=>none
def live(Y:Sg)(k st:Nat):FK:=match gt Y.h k with
 |some b=>Nat.beq b.st st|none=>false
def cellsOf(Y:Sg)(k st:Nat):V (X U):=match gt Y.h k with
 |some (.row l _)=>cond (Nat.beq 0 st) (some l) none|some (.vec l _ _ a)=>cond (Nat.beq a st) (some l) none
 |_=>none
def rowOf(Y:Sg)(k:Nat):V (X U):=match gt Y.h k with
 |some (.row l _)=>some l|_=>none
def pR(Y:Sg)(k st:Nat):V (X U×TypeId×Nat):=match gt Y.h k with
 |some (.vec l e b a)=>cond (Nat.beq a st) (some (l,e,b)) none|_=>none
def PY(Y:Sg)(k:Nat)(l:X U):V Sg:=match gt Y.h k with
 |some (.row _ e)=>some ⟨ug Y.h k<|.row l e,Y.nx⟩|some (.vec _ e a st)=>some ⟨ug Y.h k<|.vec l e a st,Y.nx⟩
 |_=>none
def mD(l:X U)(off n:Nat):V (X U):=if off+n<=l.length then some ((l.drop off).take n)else none
def sV(l:X U)(off:Nat)(vs:X U):V (X U):=if off+vs.length<=l.length then some (l.take off++(vs++l.drop (off+vs.length)))else none
def sc(T:Tb)(t:TypeId)(a:X U)(off:Nat):V U :=
 match T.I1 t with
 |none=>none|some d=>cond (sG d) (match cP T t with
   |some n=>some (.agg<|(a.drop off).take n)|none=>none) (nth a off)
def tC(place:Nat->V (Nat×Nat))(cells:X U):X (Nat×U)->V (X U)
 |[]=>some cells|(i,v)::a=>match place i with
  |none=>none|some (off,size)=>match xX v with
   |none=>none|some b=>cond (Nat.beq b.length size) (match sV cells off b with
    |some c=>tC place c a|none=>none) none
def Md(T:Tb)(t:TypeId)(c:X (Nat×U)):V U :=
 match T.inf t with
 |none=>none|some (_,_,z)=>match rN z.cells.toList with
  |none=>none|some d=>match T.I1 t with
   |some (.struct b)=>cond (JI T b.toList) (match tC (O1 T b.toList) d c with
    |some a=>cond (I8 a) (some<|.agg a) none|none=>none) none
   |some (.array _ e)=>(match cP T e with
    |none=>none|some n=>match tC (fun i=>some (i*n,n)) d c with
     |some a=>cond (I8 a) (some<|.agg a) none|none=>none)
   |_=>none
def g1(f:Value->V Value)(u:U):V U:=match cf u with
 |some v=>(match f v with
  |some r=>kS r|none=>none)
 |none=>none
def g2(f:Value->Value->V Value)(a b:U):V U:=match cf a with
 |some x=>(match cf b with
  |some y=>(match f x y with
   |some r=>kS r|none=>none)
  |none=>none)
 |none=>none
def iA(Y:Sg):U->Nat
 |.ptr k st _=>cond (live Y k st) 1 0|.b4 _=>1
 |.sl k _ _ _=>cond (live Y k 0) 2 0|.vl k st _ (_+1)=>cond (live Y k st) 2 0
 |.O _ (_::_)=>2|.map k=>cond (live Y k 0) 3 0
 |_=>0
def NY:U->Nat
 |.b6=>1|.J=>2
 |.e6=>3|_=>0
def BQ(T:Tb)(t:TypeId):Nat:=match T.I1 t with
 |some (.pointer _)=>1|some (.slice _)=>2
 |some (.map _ _)=>3|_=>0
def GR:BinOp->V U
 |.eql=>some (.bool false)|.neq=>some (.bool true)
 |_=>none
def Ly(T:Tb)(Y:Sg)(op:BinOp)(t:TypeId)(x y:U):V U :=
 cond (Nat.beq (BQ T t) 0) none (cond (cond (Nat.beq (iA Y x)<|BQ T t) (Nat.beq (NY y)<|BQ T t)<|cond (Nat.beq (NY x)<|BQ T t) (Nat.beq (iA Y y)<|BQ T t) false) (GR op) none)
def MJ(T:Tb)(Y:Sg)(op:BinOp)(t:TypeId)(x y:U):V U:=match g2 (tA T op t) x y with
 |some r=>some r|none=>Ly T Y op t x y
def Vi(T:Tb)(Y:Sg)(st:TypeId)(x:U)(f:Nat):V U :=
 match T.I1 st with
 |some (.struct b)=>match nth b.toList f with
  |some a=>(match cP T a.type with
   |some (_+1)=>match x with
    |.ptr k s off=>cond (live Y k s) (some<|.ptr k s<|off+a.offset) none|.b4 l=>some (.b4<|l.drop a.offset)
    |_=>none
   |_=>none)
  |none=>none
 |_=>none
def XF(T:Tb)(st:TypeId)(x:U)(f:Nat):V U :=
 match T.I1 st with
 |some (.struct c)=>match nth c.toList f with
  |some a=>(match x with
   |.agg b=>sc T a.type b a.offset|_=>none)
  |none=>none
 |_=>none
def EG(T:Tb)(Y:Sg)(t:TypeId)(x ix:U):V U :=
 match ix with
 |.int _ i=>match T.I1 t with
  |some (.slice e)=>(match cP T e with
   |some a=>match x with
    |.sl k off n _=>cond (live Y k 0) (if 0<=i/\i<n then some (.ptr k 0<|off+i.toNat*a)else none) none|.vl k st off n=>(match pR Y k st with
     |some (l,_,b)=>cond (Nat.beq b a) (if 0<=i/\i<n/\l≠[]then some (.ptr k st<|off*a+i.toNat*a)else none) none|none=>none)
    |.O _ l=>if 0<=i/\i<l.length then(match l[i.toNat]? with
     |some c=>cond (Nat.beq c.length a) (some<|.b4 c) none|none=>none)else none
    |_=>none
   |none=>none)
  |some (.array n e)=>(match cP T e with
   |some a=>match x with
    |.ptr k st off=>cond (live Y k st) (if 0<=i/\i<n then some (.ptr k st<|off+i.toNat*a)else none) none|.b4 l=>if 0<=i/\i<n then some (.b4<|l.drop<|i.toNat*a)else none
    |_=>none
   |none=>none)
  |_=>none
 |_=>none
def bg(T:Tb)(t:TypeId)(x ix:U):V U :=
 match x with
 |.agg a=>(match ix with
  |.int _ i=>match T.I1 t with
   |some (.array n e)=>(if 0<=i/\i<n then(match cP T e with
    |some b=>sc T e a (i.toNat*b)|none=>none)else none)
   |_=>none
  |_=>none)
 |_=>g2 (Bs T t) x ix
def F'(x:U)(i:Nat):V U:=match x with
 |.a7 vs=>nth vs i|_=>none
def yU(T:Tb)(Y:Sg)(t:TypeId)(x:U):V U:=match T.I1 t with
 |some (.slice _)=>(match x with
  |.J=>some (.int .i64 0)|.sl k _ n _=>cond (live Y k 0) (some<|.int .i64 n) none
  |.vl k st _ n=>cond (live Y k st) (some<|.int .i64 n) none|.O _ l=>some (.int .i64 l.length)
  |_=>none)
 |some .string=>(match x with
  |.str s=>some (.int .i64 s.length)|_=>none)
 |some (.array n _)=>(match x with
  |.J9=>none|_=>some<|.int .i64 n)
 |_=>none
def capU(T:Tb)(Y:Sg)(t:TypeId)(x:U):V U:=match T.I1 t with
 |some (.slice _)=>(match x with
  |.J=>some (.int .i64 0)|.sl k _ _ c=>cond (live Y k 0) (some<|.int .i64 c) none
  |_=>none)
 |_=>none
def vM{a:Type}(l:X a)(lo b:Nat):X a:=(l.take b).drop lo
def UP(T:Tb)(Y:Sg)(t:TypeId)(x:U)(lo d:V Value):V U :=
 match T.I1 t with
 |some (.slice e)=>(match cP T e with
  |some b=>match x with
   |.vl k st off n=>(match pR Y k st with
    |some (r,_,f)=>cond (Nat.beq f b) (match o9 n n lo d with
      |some (l,h,_)=>if(off+n)*b<=r.length then some (.vl k st (off+l)<|h-l)else none|none=>none) none
    |none=>none)
   |.O t l=>if(l.all fun c=>Nat.beq c.length b)=true then(match o9 l.length l.length lo d with
    |some (a,h,_)=>some (.O (cond t (Nat.beq h l.length) false)<|vM l a h)|none=>none)else none
   |_=>none
  |none=>none)
 |_=>none
def iV(T:Tb)(Y:Sg)(e:X U)(op:Op):V U :=
 match op with
 |.move x=>cX e x|.assign x=>cX e x
 |.pick c a b=>(match cX e c with
  |some (.bool true)=>cX e a|some (.bool false)=>cX e b
  |_=>none)
 |.build t j=>(match BW e j.toList with
  |some m=>Md T t m|none=>none)
 |.nilCheck x=>(match cX e x with
  |some (.ptr k st off)=>cond (live Y k st) (some<|.ptr k st off) none|some (.b4 l)=>some (.b4 l)
  |some (.fn (.func f) a b)=>some (.fn (.func f) a b)|_=>none)
 |.binOp op t x y _=>(match cX e x,cX e y with
  |some a,some b=>MJ T Y op t a b|_,_=>none)
 |.unOp op _ x=>(match cX e x with
  |some a=>g1 (TX op) a|none=>none)
 |.convert s d x=>(match cX e x with
  |some a=>g1 (Q1 T s d) a|none=>none)
 |.makeFunc fn first cap=>(match pT e first.toList,pT e cap.toList with
  |some a,some b=>some (.fn fn a b)|_,_=>none)
 |.slice t x lo g none=>(match cX e x,D1 e lo,D1 e g with
  |some a,some l,some h=>UP T Y t a l h|_,_,_=>none)
 |.fieldAddr t x f=>(match cX e x with
  |some a=>Vi T Y t a f|none=>none)
 |.field t x f=>(match cX e x with
  |some a=>XF T t a f|none=>none)
 |.indexAddr t x i=>(match cX e x,cX e i with
  |some a,some b=>EG T Y t a b|_,_=>none)
 |.index t x i=>(match cX e x,cX e i with
  |some a,some b=>bg T t a b|_,_=>none)
 |.extract x i=>(match cX e x with
  |some a=>F' a i|none=>none)
 |.call c=>(match c.callee with
  |.builtin .len=>(match pT e c.args.toList,c.argTypes.toList with
   |some [x],t::_=>yU T Y t x|_,_=>none)
  |.builtin .max=>(match pT e c.args.toList with
   |some (x::l)=>(match cf x,mO l with
    |some a,some b=>(match yZ UL a b with
     |some r=>kS r|none=>none)
    |_,_=>none)
   |_=>none)
  |.builtin .min=>(match pT e c.args.toList with
   |some (x::l)=>(match cf x,mO l with
    |some a,some b=>(match yZ UK a b with
     |some r=>kS r|none=>none)
    |_,_=>none)
   |_=>none)
  |_=>none)
 |_=>none
def HJ(T:Tb)(t:TypeId)(l:X U)(off:Nat):V U:=match T.I1 t with
 |none=>none|some d=>cond (sG d) (match cP T t with
   |some n=>(match mD l off n with
    |some a=>some (.agg a)|none=>none)
   |none=>none) (nth l off)
def tB(T:Tb)(Y:Sg)(a:X U)(op:Op):V U :=
 match op with
 |.load t x=>(match cX a x with
  |some (.ptr k st off)=>(match cellsOf Y k st with
   |some l=>HJ T t l off|none=>none)
  |some (.b4 l)=>HJ T t l 0|_=>none)
 |_=>none
def Rz:U->U
 |.J=>.O false []|.O _ l=>.O false l
 |u=>u
def yN:X U->X U
 |[]=>[]|u::l=>Rz u::yN l
def bE(Y:Sg)(b:B):Sg:=⟨(Y.nx,b)::Y.h,Y.nx+1⟩
def xP(Y:Sg)(a:Nat)(x:U):V (Nat×X U):=match x with
 |.J=>some (0,[])|.O _ l=>if(l.all fun c=>Nat.beq c.length a)=true then some (l.length,l.flatten)else none
 |.sl k off n _=>(match rowOf Y k with
  |some l=>(match mD l off (n*a)with
   |some b=>some (n,yN b)|none=>none)
  |none=>none)
 |.vl k st off n=>(match pR Y k st with
  |some (l,_,d)=>cond (Nat.beq d a) (match mD l (off*a) (n*a)with
   |some b=>some (n,b)|none=>none) none
  |none=>none)
 |_=>none
def EF(T:Tb)(Y:Sg)(t i:TypeId)(s x:U):V (U×Sg):=
 match T.I1 t,T.I1 i with
 |some (.slice e),some (.slice _)=>(match T.inf e with
  |some (b+1,c,z)=>cond (Nat.beq z.cells.toList.length<|b+1) (match xP Y (b+1) x with
   |none=>none|some (k,new)=>match s with
    |.J=>if k*c<=140737488355328/\k<=140737488355328 then some (.vl Y.nx 0 0 k,bE Y<|.vec new e (b+1) 0)else none|.O true []=>if 0<k/\k*c<=140737488355328/\k<=140737488355328 then some (.vl Y.nx 0 0 k,bE Y<|.vec new e (b+1) 0)else none
    |.sl a _ 0 0=>(match rowOf Y a with
     |none=>none|some _=>if k*c<=140737488355328/\k<=140737488355328 then some (.vl Y.nx 0 0 k,bE Y<|.vec new e (b+1) 0)else none)
    |.vl a st off n=>(match gt Y.h a with
     |some (.vec l f g d)=>cond (Nat.beq d st) (cond (Nat.beq f e) (cond (Nat.beq g<|b+1) (match mD l (off*(b+1)) (n*(b+1))with
      |none=>none|some p=>if(n+k)*c<=140737488355328/\n+k<=140737488355328/\(0<k/\(off=0\/0<n)\/off=0/\n*(b+1)=l.length)then some (.vl a (st+1) 0<|n+k,⟨ug Y.h a<|.vec (p++new) e (b+1)<|st+1,Y.nx⟩)else none) none) none) none
     |_=>none)
    |_=>none) none
  |_=>none)
 |_,_=>none
def J'(T:Tb)(Y:Sg)(t a:TypeId)(s x:U):V (U×Sg):=match EF T Y t a s x with
 |some r=>some r|none=>none
def copyU(T:Tb)(Y:Sg)(t:TypeId)(d x:U):V (U×Sg):=
 match T.I1 t with
 |some (.slice e)=>(match cP T e with
  |none=>none|some b=>match xP Y b x with
   |none=>none|some (k,f)=>match d with
    |.sl a off n _=>(match rowOf Y a with
     |some l=>if n=0\/k=0\/b=0 then none else(match sV l off (f.take<|Nat.min k n*b)with
      |some g=>(match PY Y a g with
       |some c=>some (.int .i64<|Nat.min k n,c)|none=>none)
      |none=>none)
     |none=>none)
    |_=>none)
 |_=>none
def HD(Y:Sg)(k:Nat)(a:X U):X U:=match gt Y.h k with
 |some (.vec _ _ _ _)=>yN a|_=>a
def Bn(T:Tb)(Y:Sg)(t:TypeId)(p u:U):V (U×Sg):=
 match p with
 |.ptr k st off=>(match cP T t with
  |none=>none|some n=>match xX u with
   |none=>none|some a=>cond (Nat.beq a.length n) (cond (I8 a) (match cellsOf Y k st with
    |some l=>(match sV l off (HD Y k a)with
     |some c=>(match PY Y k c with
      |some b=>some (.J9,b)|none=>none)
     |none=>none)
    |none=>none) none) none)
 |_=>none
def zE(z:X U)(n:Nat):X U:=(replicate n z).flatten
def Rq(T:Tb)(Y:Sg)(t:TypeId)(l c:U):V (U×Sg):=
 match T.I1 t,l,c with
 |some (.slice e),.int _ a,.int _ b=>(match T.inf e with
  |some (g,d,z)=>(match rN z.cells.toList with
   |some f=>cond (I8 f) (cond (Nat.beq z.cells.toList.length g) (if 0<=a/\a<=b/\d*b.toNat<=281474976710656/\b<=281474976710656 then
     some (.sl Y.nx 0 a.toNat b.toNat,bE Y<|.row (zE (yN f) b.toNat) e)else none) none) none
   |none=>none)
  |none=>none)
 |_,_,_=>none
def Vn(T:Tb)(Y:Sg)(t:TypeId)(n:Nat)(c:X (Nat×U)):V (U×Sg):=
 match T.I1 t with
 |some (.slice e)=>(match T.inf e with
  |some (a,_,z)=>cond (ble (n*a) 16777216) (cond (ble n 16777216) (cond (Nat.beq z.cells.toList.length a) (match rN z.cells.toList with
   |none=>none|some d=>match tC (fun i=>some (i*a,a)) (zE d n) c with
    |some b=>cond (I8 b) (some (.sl Y.nx 0 n n,bE Y<|.row b e)) none|none=>none) none) none) none
  |none=>none)
 |_=>none
def z38(Y:Sg)(r:Nat)(b:X ME)(a:Nat):Sg:=⟨ug Y.h r<|.map b a,Y.nx⟩
def sW(T:Tb)(Y:Sg)(d:X U)(op:Op):V (U×Sg):=
 match op with
 |.alloc e=>(match T.inf e with
  |some (_,_,z)=>(match rN z.cells.toList with
   |some g=>cond (I8 g) (some (.ptr Y.nx 0 0,bE Y<|.row g e)) none|none=>none)
  |none=>none)
 |.box e x=>(match cX d x with
  |some u=>(match xX u with
   |some f=>cond (I8 f) (some (.ptr Y.nx 0 0,bE Y<|.row f e)) none|none=>none)
  |none=>none)
 |.store t a x=>(match cX d a,cX d x with
  |some p,some v=>Bn T Y t p v|_,_=>none)
 |.buildSlice t n h=>(match BW d h.toList with
  |some i=>Vn T Y t n i|none=>none)
 |.makeSlice t l c=>(match cX d l,cX d c with
  |some a,some b=>Rq T Y t a b|_,_=>none)
 |.makeMap _ none=>some (.map Y.nx,bE Y<|.map [] 0)|.call c=>(match c.callee with
  |.builtin .append=>(match pT d c.args.toList,c.argTypes.toList with
   |some [a,b],[t,j]=>J' T Y t j a b|_,_=>none)
  |_=>none)
 |_=>none
def bJ(T:Tb)(Y:Sg)(a:X U)(op:Op):V (U×Sg):=
 match iV T Y a op with
 |some v=>some (v,Y)|none=>match tB T Y a op with
  |some v=>some (v,Y)|none=>sW T Y a op
def kQ(T:Tb)(a:X U)(op:Op):V (FuncId×X U):=
 match op with
 |.call c=>(match c.callee with
  |.value f=>(match cX a f with
   |some (.fn (.func g) first cap)=>(match T.fn g with
    |some fn=>cond fn.body.isSome (match pT a c.args.toList with
     |some args=>some (g,first++args++cap)|none=>none) none
    |none=>none)
   |_=>none)
  |_=>none)
 |_=>none
end Go.Vx
namespace Go.Vx
open Go Go.Rx
mutual
def NU:(u:U)->(v:Value)->cf u=some v->∀(x:Cx)(a:Value),aF x u a↔a=v
 |.bool b,v,h,x,a=>by simp[cf,zA]at h;subst h;simp[aF]
 |.int k n,v,h,x,a=>by simp[cf,zA]at h;subst h;simp[aF]
 |.str l,v,h,x,a=>by simp[cf,zA]at h;subst h;simp[aF]
 |.b6,v,h,x,a=>by simp[cf,zA]at h;subst h;simp[aF]
 |.J,v,h,x,a=>by simp[cf,zA]at h;subst h;simp[aF]
 |.e6,v,h,x,a=>by simp[cf,zA]at h;subst h;simp[aF]
 |.e9,v,h,x,a=>by simp[cf,zA]at h;subst h;simp[aF]
 |.k9,v,h,x,a=>by simp[cf,zA]at h;subst h;simp[aF]
 |.agg l,v,h,x,a=>by simp[cf]at h;rcases d:I8 l with _|_;simp[d]at h;simp[d,zC]at h;rcases e:mO l with _|c;simp[e]at h;simp[e,zA]at h;subst h;have:=QD l c e x;simp[aF,d,cO];constructor;rintro⟨i,rfl,f,g⟩;rw[(this i).1 ⟨f,g⟩];rintro rfl;exact⟨c,rfl,((this c).2 rfl).1,((this c).2 rfl).2⟩
 |.J9,v,h,x,a=>by simp[cf]at h
 |.ptr _ _ _,v,h,x,a=>by simp[cf]at h
 |.b4 _,v,h,x,a=>by simp[cf]at h
 |.sl _ _ _ _,v,h,x,a=>by simp[cf]at h
 |.vl _ _ _ _,v,h,x,a=>by simp[cf]at h
 |.O _ _,v,h,x,a=>by simp[cf]at h
 |.map _,v,h,x,a=>by simp[cf]at h
 |.fn _ _ _,v,h,x,a=>by simp[cf]at h
 |.a7 _,v,h,x,a=>by simp[cf]at h
def QD:(l:X U)->(c:X Value)->mO l=some c->∀(x:Cx)(d:X Value),bD x l d↔d=c
 |[],c,h,x,d=>by simp[mO,zA]at h;subst h;exact⟨fun h=>h.K4,fun h=>h ▸ bD.nil x⟩
 |u::l,c,h,x,d=>by simp[mO]at h;rcases a:cf u with _|v;simp[a]at h;rcases b:mO l with _|uR;simp[a,b]at h;simp[a,b,zA]at h;subst h;constructor;intro i;obtain⟨w,e,rfl,f,g⟩:=i.inv;rw[(NU u v a x w).1 f,(QD l uR b x e).1 g];rintro rfl;exact bD.cons ((NU u v a x v).2 rfl) ((QD l uR b x uR).2 rfl)
end
mutual
def Bq:(v:Value)->(u:U)->kS v=some u->plain v=true/\∀x:Cx,aF x u v
 |.bool b,u,h=>by simp[kS,zA]at h;subst h;simp[aF,plain]
 |.int k n,u,h=>by simp[kS,zA]at h;subst h;simp[aF,plain]
 |.string s,u,h=>by simp[kS,zA]at h;subst h;simp[aF,plain]
 |.pointer none,u,h=>by simp[kS,zA]at h;subst h;simp[aF,plain]
 |.slice none n c,u,h=>by simp[kS]at h;split at h;simp[zA]at h;subst h;simp[aF,plain];cases h
 |.map none,u,h=>by simp[kS,zA]at h;subst h;simp[aF,plain]
 |.nilFunc,u,h=>by simp[kS,zA]at h;subst h;simp[aF,plain]
 |.nilIface,u,h=>by simp[kS,zA]at h;subst h;simp[aF,plain]
 |.agg ⟨l⟩,u,h=>by simp[kS]at h;rcases d:rN l with _|us;simp[d]at h;simp[d]at h;rcases a:I8 us with _|_;simp[a]at h;simp[a,zC,zA]at h;subst h;have⟨f,e⟩:=Bx l us d;exact⟨by simp[plain,f],fun x=>by simp only[aF];exact⟨l,rfl,(e x).1,(e x).2,a⟩⟩
 |.float _ _,u,h=>by simp[kS]at h
 |.complex _ _ _,u,h=>by simp[kS]at h
 |.pointer (some _),u,h=>by simp[kS]at h
 |.slice (some _) _ _,u,h=>by simp[kS]at h
 |.map (some _),u,h=>by simp[kS]at h
 |.chan _,u,h=>by simp[kS]at h
 |.func _ _ _,u,h=>by simp[kS]at h
 |.iface _ _,u,h=>by simp[kS]at h
 |.tuple _,u,h=>by simp[kS]at h
def Bx:(l:X Value)->(b:X U)->rN l=some b->UQ l=true/\∀x:Cx,bD x b l
 |[],b,h=>by simp[rN,zA]at h;subst h;exact⟨by simp[UQ],fun x=>bD.nil x⟩
 |v::l,b,h=>by simp[rN]at h;rcases a:kS v with _|u;simp[a]at h;rcases c:rN l with _|Ll;simp[a,c]at h;simp[a,c,zA]at h;subst h;have⟨d,e⟩:=Bq v u a;have⟨f,g⟩:=Bx l Ll c;exact⟨by simp[UQ,d,f],fun x=>bD.cons (e x)<|g x⟩
end
section
variable{x:Cx}{tm:X U}{a:X Value}(b:bD x tm a)
include b
def kG{o:He}{u:U}(h:cX tm o=some u):∃v,F8 a o=some v/\aF x u v:=by
 cases o with
 |tmp t=>simp[cX,lW]at h;have⟨v,c,d⟩:=b.get h;exact⟨v,by simp[F8,lW,c],d⟩
 |const v=>have⟨c,d⟩:=Bq v u h;exact⟨v,by simp[F8,c],d x⟩
 |func f=>simp[cX,zA]at h;subst h;exact⟨_,rfl,by simp only[aF];exact⟨[],[],rfl,by simp[cJ],rfl,by simp[cJ],rfl⟩⟩|global g=>simp[cX]at h
def Cn{l:X He}{f:X U}(h:pT tm l=some f):∃d,qI a l=some d/\bD x f d:=by induction l generalizing f with|nil=>simp[pT,zA]at h;subst h;exact⟨[],rfl,bD.nil x⟩|cons o l j=>simp[pT]at h;rcases c:cX tm o with _|u;simp[c]at h;rcases e:pT tm l with _|Ll;simp[c,e]at h;simp[c,e,zA]at h;subst h;have⟨v,g,k⟩:=kG b c;have⟨d,i,m⟩:=j e;exact⟨v::d,by simp[qI,g,i],bD.cons k m⟩
inductive Bl(x:Cx):List (Nat×U)->List (Nat×Value)->Prop
 |nil:Bl x [] []
 |cons {i:Nat} {u:U} {v:Value} {l:List (Nat×U)} {m:List (Nat×Value)}:aF x u v->Bl x l m->Bl x ((i,u)::l) ((i,v)::m)
def Ru{l:X (Nat×He)}{f:X (Nat×U)}(h:BW tm l=some f):∃d,JF a l=some d/\Bl x f d:=by induction l generalizing f with|nil=>simp[BW,zA]at h;subst h;exact⟨[],rfl,.nil⟩|cons o l k=>have⟨i,o⟩:=o;simp[BW]at h;rcases c:cX tm o with _|u;simp[c]at h;rcases e:BW tm l with _|Ll;simp[c,e]at h;simp[c,e,zA]at h;subst h;have⟨v,g,m⟩:=kG b c;have⟨d,j,n⟩:=k e;exact⟨(i,v)::d,by simp[JF,g,j],.cons m n⟩
def qsw{o:V He}{r:V Value}(h:D1 tm o=some r):xT a o=some r:=by obtain _|o:=o;simpa[D1,xT]using h;simp[D1]at h;rcases c:cX tm o with _|u;simp[c]at h;have⟨v,e,d⟩:=kG b c;cases u with|int k n=>simp[c,zA]at h;simp[aF]at d;subst d;subst h;simp[xT,e]|_=>simp[c]at h
end
variable{x:Cx}{u:U}{v:Value}
def XK{f:Value->V Value}{r:U}(h:g1 f u=some r)(d:aF x u v):∃a,f v=some a/\aF x r a:=by unfold g1 at h;rcases b:cf u with _|v0;simp[b]at h;simp[b]at h;rcases c:f v0 with _|a;simp[c]at h;simp[c]at h;rw[(NU u v0 b x v).1 d];exact⟨a,c,(Bq a r h).2 x⟩
def XJ{f:Value->Value->V Value}{a b r:U}{i j:Value}(h:g2 f a b=some r)(k:aF x a i)(l:aF x b j):∃c,f i j=some c/\aF x r c:=by unfold g2 at h;rcases d:cf a with _|v1;simp[d]at h;rcases e:cf b with _|v2;simp[d,e]at h;simp[d,e]at h;rcases g:f v1 v2 with _|c;simp[g]at h;simp[g]at h;rw[(NU a v1 d x i).1 k,(NU b v2 e x j).1 l];exact⟨c,g,(Bq c r h).2 x⟩
def qtn(e:aF x u v)(d:U6 u=true):v.oneCell'=true:=by
 cases u with
 |J9=>simp[U6]at d|agg l=>simp[U6]at d
 |a7 l=>simp[U6]at d|ptr k st off=>simp[aF]at e;exact e.1
 |sl k off n c=>simp[aF]at e;exact e.1|vl k st off n=>simp[aF]at e;exact e.1
 |map k=>simp[aF]at e;exact e.1|b4 l=>simp only[aF]at e;obtain⟨_,_,_,_,rfl,_⟩:=e;rfl
 |O t l=>simp[aF]at e;obtain⟨_,rfl |⟨_,rfl⟩⟩|⟨_,_,_,rfl,_⟩:=e<;>rfl
 |fn f a b=>simp[aF]at e;obtain⟨_,_,rfl,_⟩:=e;rfl
 |_=>simp[aF]at e;subst e;rfl
variable{l:X U}{vs:X Value}
def aj(h:bD x l vs)(a:I8 l=true):xY vs=true:=by induction l generalizing vs with|nil=>rw[h.K4];rfl|cons u l d=>obtain⟨v,g,rfl,b,c⟩:=h.inv;simp only[I8]at a;have⟨e,f⟩:=O6 a;simp[xY,qtn b e,d c f]
def TT{a:X U}(f:aF x u v)(h:xX u=some a):bD x a v.cells.toList/\I8 a=true:=by
 have one:U6 u=true->a=[u]->bD x a v.cells.toList/\I8 a=true:=fun b c=>by
  subst c;have:=qtn f b;have e:v.cells= #[v]:=by cases v<;>first |rfl |(simp[Value.oneCell']at this)
  rw[e];exact⟨bD.cons f<|bD.nil x,by simp[I8,b]⟩
 cases u with
 |J9=>simp[xX]at h|a7 l=>simp[xX]at h
 |agg l=>simp[xX,zA]at h;subst h;simp[aF]at f;obtain⟨vs,rfl,b,c,d⟩:=f;exact⟨⟨b,c⟩,d⟩
 |_=>simp[xX,zA]at h;exact one rfl h.symm
def zdu(h:aF x u v):aF x (Rz u) v:=by
 cases u with
 |J=>simp only[Rz,aF]at*;exact .inl ⟨trivial,.inl h⟩|O t l=>simp only[Rz,aF]at*;obtain h |⟨i,off,c,a,d,b⟩:=h;exact .inl h;exact .inr ⟨i,off,c,a,(fun h=>by cases h),b⟩
 |_=>exact h
def ZB(u:U):U6 (Rz u)=U6 u:=by cases u<;>rfl
def qwl:∀l:X U,(yN l).length=l.length
 |[]=>rfl|u::l=>by simp[yN,qwl l]
def gg:∀l:X U,I8 (yN l)=I8 l
 |[]=>rfl|u::l=>by simp[yN,I8,ZB,gg l]
def qzb{x:Cx}:∀{l:X U}{vs:X Value},cJ x l vs->cJ x (yN l) vs
 |[],vs,h=>by simp[yN,cJ]
 |u::l,[],h=>by simp[cJ]at h
 |u::l,v::vs,h=>by simp[yN,cJ]at*;exact⟨zdu h.1,qzb h.2⟩
def qwm(h:bD x l vs):bD x (yN l) vs:=⟨qzb h.1,by rw[qwl];exact h.2⟩
def zdt{Y:Sg}{k:Nat}(h:bD x l vs):bD x (HD Y k l) vs:=by unfold HD;split;exact qwm h;exact h
def ZC(Y:Sg)(k:Nat)(l:X U):I8 (HD Y k l)=I8 l:=by unfold HD;split;exact gg l;rfl
structure Out(x y:Cx):Prop where
 h:jV y
 mo:Mo x.Y.nx x y
 fr:∀F,Fr F x->Fr F y
def nc:HN:=fun _ _ _=>none
def tZ(T:Tb)(x:Cx)(b:X Value)(op:Op)(u:U)(a:Sg):Prop:=∃v y,C1 T nc b x.s op=some (v,y.s)/\y.Y=a/\aF y u v/\Out x y
def Mo.refl(n:Nat)(x:Cx):Mo n x x:=⟨fun k _ a=>⟨a,fun b c=>⟨b,c,zF _,fun _=>⟨rfl,fun l e d st h=>⟨l,h⟩⟩⟩⟩,fun _ _ _ h=>h⟩
def Out.refl{x:Cx}(h:jV x):Out x x:=⟨h,Mo.refl _ _,fun _ h=>h⟩
variable{T:Tb}{A:X Value}{op:Op}
def tZ.same(a:jV x)(h:C1 T nc A x.s op=some (v,x.s))(b:aF x u v):tZ T x A op u x.Y:=⟨v,x,h,rfl,b,Out.refl a⟩
variable{call:HN}{s:S}
def z8d(h:kP T A op=some v):C1 T call A s op=some (v,s):=by simp[C1,h]
def qqp(a:kP T A op=none)(h:xS T A s op=some v):C1 T call A s op=some (v,s):=by simp[C1,h,a]
def qy4{r:Value×S}(a:kP T A op=none)(b:xS T A s op=none)(h:CQ T A s op=some r):C1 T call A s op=some r:=by simp[C1,h,a,b]
def bump(x:Cx):Cx:=⟨x.I,x.Y,⟨x.s.h,x.s.nx+1⟩⟩
def quv(n:Nat)(x:Cx):Mo n x (bump x):=⟨fun k _ a=>⟨a,fun b c=>⟨b,c,zF _,fun _=>⟨rfl,fun l e d st h=>⟨l,h⟩⟩⟩⟩,fun _ _ _ h=>h⟩
def qpz(h:aF x u v):aF (bump x) u v:=(quv x.Y.nx x).ke u v (aF.K3 u v h) h
def YU(h:bD x l vs):bD (bump x) l vs:=(quv x.Y.nx x).ke.E h.K3 h
def z75(h:jV x):Out x (bump x):=by
 refine⟨⟨fun k b n=>?_,h.inj,fun i b n=>Ze<|h.bd i b n⟩,quv _ _,fun F O=>O⟩;have⟨q,g⟩:=h.ok k b n;refine⟨q,?_⟩;cases b with
 |row l e=>have⟨o,i,p,c,d,a⟩:=g;exact⟨o,i,p,c,d,YU a⟩
 |vec l e z st=>have⟨o,t,m⟩:=g;refine⟨o,t,?_⟩;obtain m |⟨i,p,c,d,a⟩:=m;exact .inl m;exact .inr ⟨i,p,c,d,YU a⟩
 |map y w=>have⟨i,f,c,d,a⟩:=g;refine⟨i,f,c,d,a.1,fun j e r=>?_⟩;have⟨v,q1,q2,q3,q4⟩:=a.2 j e r;exact⟨v,q1,qpz q2,qpz q3,q4⟩
end Go.Vx
namespace Go.Vx
open Go Go.Rx
variable{l:X Value}{n:Nat}
def z97(h:n<=l.length):JB l n=some (l.take n):=by
 induction l generalizing n with
 |nil=>simp at h;subst h;simp[JB]|cons a l b=>cases n with
  |zero=>simp[JB]|succ n=>simp[JB,b<|by simpa using h]
variable{off:Nat}
def gk(h:off+n<=l.length):xM l off n=some ((l.drop off).take n):=z97 (by simp;omega)
variable{vs:X Value}
def zcw(h:vs.length<=l.length):H5 l vs=some (vs++l.drop vs.length):=by
 induction vs generalizing l with
 |nil=>simp[H5]|cons v vs b=>cases l with
  |nil=>simp at h|cons a l=>simp[H5,b<|by simpa using h]
def zcy(h:off+vs.length<=l.length):BN l off vs=some (l.take off++(vs++l.drop (off+vs.length))):=by
 induction l generalizing off with
 |nil=>simp at h;obtain⟨rfl,rfl⟩:=h;simp[BN,H5]
 |cons a l b=>cases off with
  |zero=>simp only[BN,Ty]at*;rw[zcw h];simp|succ off=>simp[BN,b (off:=off) (by simp at h;omega),succ_add]
variable{l:X U}
def V6(h:I8 l=true)(n:Nat):I8 (l.take n)=true:=(NX _).2 fun u a=>(NX l).1 h u (Ey a)
def HU(h:I8 l=true)(n:Nat):I8 (l.drop n)=true:=(NX _).2 fun u a=>(NX l).1 h u (A' a)
def VE{a b:X U}(h:I8 a=true)(c:I8 b=true):I8 (a++b)=true:=(NX _).2 fun u d=>(yD.1 d).elim ((NX a).1 h u) ((NX b).1 c u)
variable{r:X U}
def VA(h:mD l off n=some r):off+n<=l.length/\r=(l.drop off).take n:=by unfold mD at h;split at h;simp at h;exact⟨by assumption,h.symm⟩;cases h
def z4n{vs:X U}(h:sV l off vs=some r):off+vs.length<=l.length/\r=l.take off++(vs++l.drop (off+vs.length)):=by unfold sV at h;split at h;simp at h;exact⟨by assumption,h.symm⟩;cases h
variable{x:Cx}
def z4m{vs:X U}{e g:X Value}(h:sV l off vs=some r)(c:bD x l e)(d:bD x vs g):∃f,BN e off g=some f/\bD x r f/\(I8 l=true->I8 vs=true->I8 r=true):=by obtain⟨i,rfl⟩:=z4n h;refine⟨_,zcy (by rw[<-c.2,<-d.2];exact i),?_,fun a b=>VE (V6 a _)<|VE b<|HU a _⟩;rw[<-d.2];exact(c.take _).append (d.append<|c.drop _)
def z5h{a:X Value}(h:mD l off n=some r)(b:bD x l a):xM a off n=some ((a.drop off).take n)/\bD x r ((a.drop off).take n):=by obtain⟨c,rfl⟩:=VA h;exact⟨gk (by rw[<-b.2];exact c),(b.drop _).take _⟩
def Vg{x:Cx}{place:Nat->V (Nat×Nat)}:∀{p:X (Nat×U)}{s:X (Nat×Value)}{cells r:X U}{a:X Value},Bl x p s->bD x cells a->tC place cells p=some r->∃j,FQ place a s=some j/\bD x r j
 |_,_,cells,r,a,.nil,g,h=>by simp only[tC,zA]at h;subst h;exact⟨a,rfl,g⟩
 |_,_,cells,r,a,.cons (i:=i) (u:=u) (v:=v) (l:=l) (m:=m) w t,g,h=>by simp only[tC]at h;rcases b:place i with _|q;simp[b]at h;obtain⟨off,size⟩:=q;simp only[b]at h;rcases d:xX u with _|cs;simp[d]at h;simp only[d]at h;obtain⟨o,y⟩:=TT w d;rcases e:Nat.beq cs.length size with _|_;simp[e]at h;simp only[e,zC]at h;rcases f:sV cells off cs with _|c;simp[f]at h;simp only[f]at h;obtain⟨j,q1,q2,_⟩:=z4m f g o;obtain⟨k,q3,q4⟩:=Vg t q2 h;exact⟨k,by simp only[FQ,b];rw[<-o.2,e];simp only[zC,q1,q3],q4⟩
variable{T:Tb}{t:TypeId}{u:U}
def qyi{a:X U}(h:sc T t a off=some u)(b:bD x a vs)(g:I8 a=true):∃v,PZ T t vs off=some v/\aF x u v:=by
 unfold sc at h;unfold PZ;rcases e:T.I1 t with _|d;simp[e]at h;simp[e]at h ⊢;cases c:sG d with
 |true=>simp[c,zC]at h ⊢;rcases f:cP T t with _|n;simp[f]at h;simp only[f,zA]at h ⊢;subst h;refine⟨_,rfl,?_⟩;simp only[aF];exact⟨_,rfl,((b.drop off).take n).1,((b.drop off).take n).2,V6 (HU g _) _⟩
 |false=>simp[c,zD,lW]at h ⊢;exact b.get h
def z1h{m:X (Nat×U)}{A:X (Nat×Value)}(h:Md T t m=some u)(y:Bl x m A):∃v,Ul T t A=some v/\aF x u v:=by
 unfold Md at h;unfold Ul;rcases w:T.inf t with _|q;simp[w]at h;have⟨a,b,z⟩:=q;simp[w]at h ⊢;rcases o:rN z.cells.toList with _|zu;simp[o]at h;simp[o]at h;have p:=(Bx _ _ o).2 x;rcases k:T.I1 t with _|d;simp[k]at h;cases d with
 |struct s=>simp[k]at h ⊢;rcases g:JI T s.toList with _|_;simp[g]at h;simp[g,zC]at h ⊢;rcases c:tC (O1 T s.toList) zu m with _|cs;simp[c]at h;simp[c]at h;rcases f:I8 cs with _|_;simp[f]at h;simp[f,zC,zA]at h;subst h;have⟨j,q1,q2⟩:=Vg y p c;exact⟨.agg j.toArray,by simp[q1],by simp only[aF];exact⟨j,rfl,q2.1,q2.2,f⟩⟩
 |array n e=>simp[k]at h ⊢;rcases g:cP T e with _|B;simp[g]at h;simp[g]at h ⊢;rcases c:tC (fun i=>some (i*B,B)) zu m with _|cs;simp[c]at h;simp[c]at h;rcases f:I8 cs with _|_;simp[f]at h;simp[f,zC,zA]at h;subst h;have⟨j,q1,q2⟩:=Vg y p c;exact⟨.agg j.toArray,by simp[q1],by simp only[aF];exact⟨j,rfl,q2.1,q2.2,f⟩⟩
 |_=>simp[k]at h
variable{Y:Sg}{k:Nat}
def Vo{st:Nat}(h:live Y k st=true):∃b,gt Y.h k=some b/\b.st=st:=by unfold live at h;rcases a:gt Y.h k with _|b;simp[a]at h;simp[a,beq_eq,zc]at h;exact⟨b,rfl,h⟩
variable{v:Value}
def Cg{st:Nat}(d:live x.Y k st=true)(e:aF x (.ptr k st off) v):∃i,x.I k=some i/\v=.pointer (some ⟨i,off,none⟩):=by have⟨b,a,c⟩:=Vo d;simp[aF]at e;exact((e.2.2 b a).2 c.symm)
def Mn{c:Nat}(e:live x.Y k 0=true)(f:aF x (.sl k off n c) v):∃i,x.I k=some i/\v=.slice (some ⟨i,off,none⟩) n c/\c<dC/\n<=c:=by have⟨b,a,d⟩:=Vo e;simp[aF]at f;exact((f.2.2 b a).2 d.symm)
def qxr(d:live x.Y k 0=true)(e:aF x (.map k) v):∃i,x.I k=some i/\v=.map (some i):=by have⟨b,a,c⟩:=Vo d;simp[aF]at e;exact((e.2.2 b a).2 c.symm)
def Mm{st:Nat}(g:live x.Y k st=true)(i:aF x (.vl k st off n) v):∃l e a,gt x.Y.h k=some (.vec l e a st)/\N7 off n v a (x.I k):=by have⟨b,c,d⟩:=Vo g;simp[aF]at i;obtain⟨l,e,a,rfl,f⟩:=(i.2.2 b c).2 d.symm;exact⟨l,e,a,c,f⟩
def SJ{st:Nat}{r:X U×TypeId×Nat}(h:pR Y k st=some r):gt Y.h k=some (.vec r.1 r.2.1 r.2.2 st)/\live Y k st=true:=by
 unfold pR at h;rcases a:gt Y.h k with _|b;simp[a]at h;cases b with
 |vec l e f d=>simp[a,beq_eq]at h;by_cases c:d=st;subst c;simp at h;subst h;exact⟨rfl,by simp[live,a,B.st]⟩;simp[c]at h|_=>simp[a]at h
def qpq(h:rowOf Y k=some l):∃e,gt Y.h k=some (.row l e)/\live Y k 0=true:=by
 unfold rowOf at h;rcases a:gt Y.h k with _|b;simp[a]at h;cases b with
 |row c e=>simp[a]at h;subst h;exact⟨e,rfl,by simp[live,a,B.st]⟩|_=>simp[a]at h
def zbe{b:Nat}{o:V Nat}(h:N7 off n v b o):∃a c,v=.slice a n c:=by
 cases o with
 |none=>obtain⟨_,rfl,o,rfl,_⟩:=h;exact⟨o,0,rfl⟩
 |some i=>obtain⟨_,rfl,a,c,rfl,_⟩|rfl:=h<;>exact⟨_,_,rfl⟩
def qs3(p:jV x){st:Nat}(o:live x.Y k st=true)(z:aF x (.vl k st off n) v)(y:0<n):
  ∃i l e b c,gt x.Y.h k=some (.vec l e b st)/\x.I k=some i/\v=.slice (some ⟨i,off*b,none⟩) n (dC+off)/\lk x.s.h i=some (.inl (c,e,b+2))/\bD x l c/\0<b/\I8 l=true:=by have⟨l,e,b,g,a⟩:=Mm o z;have⟨_,q,w,d⟩:=p.ok k _ g;obtain⟨_,d⟩|⟨i,c,f,j,m⟩:=d;rw[d]at a;obtain⟨_,rfl,_⟩:=a;omega;rw[f]at a;obtain⟨_,rfl,_⟩|a:=a;omega;exact⟨i,l,e,b,c,g,f,a,j,m,w,q⟩
def qz3(f:jV x)(p:aF x u v)(h:iA x.Y u=k)(j:k≠0):
  (k=1/\∃a,v=.pointer (some a))\/(k=2/\∃a n c,v=.slice (some a) n c)\/(k=3/\∃r,v=.map (some r)):=by
 cases u with
 |ptr d st off=>simp[iA]at h;rcases b:live x.Y d st with _|_;simp[b]at h;omega;simp[b]at h;obtain⟨i,_,rfl⟩:=Cg b p;exact .inl ⟨h.symm,_,rfl⟩
 |b4 l=>simp[iA]at h;simp only[aF]at p;obtain⟨i,off,_,_,rfl,_⟩:=p;exact .inl ⟨h.symm,_,rfl⟩
 |sl d off n c=>simp[iA]at h;rcases b:live x.Y d 0 with _|_;simp[b]at h;omega;simp[b]at h;obtain⟨i,_,rfl,_⟩:=Mn b p;exact .inr (.inl ⟨h.symm,_,_,_,rfl⟩)
 |vl d st off n=>cases n with|zero=>simp[iA]at h;omega|succ n=>simp[iA]at h;rcases b:live x.Y d st with _|_;simp[b]at h;omega;simp[b]at h;obtain⟨i,l,e,o,m,_,_,rfl,_⟩:=qs3 f b p<|succ_pos _;exact .inr (.inl ⟨h.symm,_,_,_,rfl⟩)
 |O t l=>obtain _|⟨c,l⟩:=l;simp[iA]at h;omega;simp[iA]at h;simp only[aF]at p;obtain⟨p,_⟩|⟨i,off,g,rfl,_⟩:=p;cases p;exact .inr (.inl ⟨h.symm,_,_,_,rfl⟩)
 |map d=>simp[iA]at h;rcases b:live x.Y d 0 with _|_;simp[b]at h;omega;simp[b]at h;obtain⟨i,_,rfl⟩:=qxr b p;exact .inr (.inr ⟨h.symm,_,rfl⟩)
 |_=>simp[iA]at h;omega
def qpg(b:aF x u v)(h:NY u=k)(a:k≠0):(k=1/\v=.pointer none)\/(k=2/\v=.slice none 0 0)\/(k=3/\v=.map none):=by
 cases u with
 |b6=>simp[NY]at h;simp[aF]at b;exact .inl ⟨h.symm,b⟩|J=>simp[NY]at h;simp[aF]at b;exact .inr (.inl ⟨h.symm,b⟩)
 |e6=>simp[NY]at h;simp[aF]at b;exact .inr (.inr ⟨h.symm,b⟩)|_=>simp[NY]at h;omega
def z3k(I:jV x){op:BinOp}{a b:U}{j m:Value}(h:Ly T x.Y op t a b=some u)(F:aF x a j)(G:aF x b m):∃v,tA T op t j m=some v/\aF x u v:=by
 unfold Ly at h;simp[beq_eq]at h;by_cases s:BQ T t=0;simp[s]at h;simp[s,yB,zD]at h;have key:GR op=some u->
   (BQ T t=1/\((∃p,j=.pointer (some p))/\m=.pointer none\/j=.pointer none/\∃p,m=.pointer (some p)))\/
   (BQ T t=2/\((∃p n c,j=.slice (some p) n c)/\m=.slice none 0 0\/j=.slice none 0 0/\∃p n c,m=.slice (some p) n c))\/
   (BQ T t=3/\((∃p,j=.map (some p))/\m=.map none\/j=.map none/\∃p,m=.map (some p)))->∃v,tA T op t j m=some v/\aF x u v:=by
  intro w f;have C:∀{k:Nat},BQ T t=k->k≠0->(k=1->∃e,T.I1 t=some (.pointer e))/\(k=2->∃e,T.I1 t=some (.slice e))/\(k=3->∃e E,T.I1 t=some (.map e E)):=by intro k f J;unfold BQ at f;rcases H:T.I1 t with _|d;simp[H]at f;omega;cases d<;>simp[H]at f<;>subst f<;>simp at J ⊢
  obtain⟨f,A⟩|⟨f,A⟩|⟨f,A⟩:=f;have⟨e,z⟩:=(C f af).1 rfl;obtain⟨⟨p,rfl⟩,rfl⟩|⟨rfl,p,rfl⟩:=A<;>cases op<;>simp[GR]at w<;>subst w<;>simp[tA,OV,HX,z,aF];have⟨e,z⟩:=(C f af).2.1 rfl;obtain⟨⟨p,n,c,rfl⟩,rfl⟩|⟨rfl,p,n,c,rfl⟩:=A<;>cases op<;>simp[GR]at w<;>subst w<;>simp[tA,OV,HX,z,aF];have⟨e,E,z⟩:=(C f af).2.2 rfl;obtain⟨⟨p,rfl⟩,rfl⟩|⟨rfl,p,rfl⟩:=A<;>cases op<;>simp[GR]at w<;>subst w<;>simp[tA,OV,HX,z,aF]
 by_cases B:iA x.Y a=BQ T t;by_cases o:NY b=BQ T t;simp[B,o,yC,zC]at h;apply key h;obtain⟨g,q⟩|⟨g,q⟩|⟨g,q⟩:=qz3 I F B s<;>obtain⟨y,i⟩|⟨y,i⟩|⟨y,i⟩:=qpg G o s<;>first |omega |skip
 exact .inl ⟨g,.inl ⟨q,i⟩⟩;exact .inr<|.inl ⟨g,.inl ⟨q,i⟩⟩;exact .inr<|.inr ⟨g,.inl ⟨q,i⟩⟩;simp[B,o]at h;simp[B,yB,zD]at h;by_cases o:NY a=BQ T t;by_cases D:iA x.Y b=BQ T t;simp[o,D,yC,zC]at h;apply key h;obtain⟨g,q⟩|⟨g,q⟩|⟨g,q⟩:=qz3 I G D s<;>obtain⟨y,i⟩|⟨y,i⟩|⟨y,i⟩:=qpg F o s<;>first |omega |skip
 exact .inl ⟨g,.inr ⟨i,q⟩⟩;exact .inr<|.inl ⟨g,.inr ⟨i,q⟩⟩;exact .inr<|.inr ⟨g,.inr ⟨i,q⟩⟩;simp[o,D]at h;simp[o]at h
def zbl(i:jV x){op:BinOp}{a b:U}{f g:Value}(h:MJ T x.Y op t a b=some u)(d:aF x a f)(e:aF x b g):∃v,tA T op t f g=some v/\aF x u v:=by unfold MJ at h;rcases c:g2 (tA T op t) a b with _|r;simp[c]at h;exact z3k i h d e;simp[c,zA]at h;subst h;exact XJ c d e
variable{v:Value}{n:Nat}
def qi2{y d:Nat}(h:zR v y=some n)(e:y<=d):zR v d=some n/\n<=y:=by
 unfold zR at*;cases v with
 |int k i=>
  simp only at*;rcases c:uH i (y+1)with _|_;simp[c]at h;simp[c,zC,zA]at h;have⟨a,b⟩:=My c;have:uH i (d+1)=true:=by
   unfold uH;cases i with
   |ofNat k=>simp at b ⊢;omega|negSucc k=>omega
  exact⟨by simp[this,h],by omega⟩
 |_=>simp at h
variable{C:V Value}{D:V Value}{l:Nat}{h:Nat}{m:Nat}
def V9{c:Nat}(a:o9 n n C D=some (l,h,m))(g:n<=c):o9 n c C D=some (l,h,c)/\l<=h/\h<=n/\m=n:=by
 unfold o9 at*;cases D with
 |none=>
  simp only at*;cases C with
  |none=>simp[zA,zB]at a ⊢;obtain⟨rfl,rfl,rfl⟩:=a;simp
  |some v=>simp only at*;rcases b:zR v n with _|k;simp[b]at a;simp[b,zA,zB]at a ⊢;obtain⟨rfl,rfl,rfl⟩:=a;simp[(qi2 b<|zF _).2]
 |some w=>
  simp only at*;rcases d:zR w n with _|k2;simp[d]at a;have⟨f,e⟩:=qi2 d g;simp[d,f]at a ⊢;cases C with
  |none=>simp[zA,zB]at a ⊢;obtain⟨rfl,rfl,rfl⟩:=a;simp[e]
  |some v=>simp only at*;rcases b:zR v k2 with _|k;simp[b]at a;simp[b,zA,zB]at a ⊢;obtain⟨rfl,rfl,rfl⟩:=a;simp[(qi2 b<|zF _).2,e]
def tj{x:Cx}{b:Nat}:∀{l:X (X U)}{vs:X Value},iS x b l vs->∀(i:Nat)(c:X U),l[i]? = some c->c.length=b/\I8 c=true/\cJ x c (vs.drop<|i*b)
 |[],vs,h,i,c,a=>by simp at a
 |d::l,vs,h,i,c,a=>by
  simp[iS]at h;cases i with
  |zero=>simp at a;subst a;exact⟨h.1,h.2.1,by simpa using h.2.2.1⟩|succ i=>simp at a;have:=tj h.2.2.2 i c a;rw[kh]at this;rw[eM,zv];exact this
def z56{x:Cx}{b:Nat}:∀{l:X (X U)}{vs:X Value},(∀(i:Nat)(c:X U),l[i]? = some c->c.length=b/\I8 c=true/\cJ x c (vs.drop<|i*b))->iS x b l vs
 |[],vs,h=>by simp[iS]
 |d::l,vs,h=>by simp[iS];have a:=h 0 d rfl;refine⟨a.1,a.2.1,by simpa using a.2.2,z56 fun i c e=>?_⟩;have:=h (i+1) c (by simpa using e);rw[kh];rw[eM,zv]at this;exact this
def z7l{b:Type}(l:X b)(a h i:Nat):(vM l a h)[i]? = if a+i<h then l[a+i]? else none:=by unfold vM;rw[pc,jz]
variable{a:Nat}
def qwz{b:Type}{l:X b}(c:h<=l.length):(vM l a h).length=h-a:=by simp[vM];omega
variable{x:Cx}{sz:Nat}
def z8v{l:X (X U)}{vs:X Value}(d:iS x sz l vs):iS x sz (vM l a h) (vs.drop<|a*sz):=by refine z56 fun i c b=>?_;rw[z7l]at b;split at b;have:=tj d _ _ b;rw[kh];rw[dX]at this;exact this;cases b
def z9p{l:X (X U)}(h:(l.all fun c=>Nat.beq c.length sz)=true):∀c∈l,c.length=sz:=fun c b=>by
 have:=all_eq_true.1 h c b;simpa[beq_eq]using this
def z57{b:Nat}{l:X (X U)}{vs:X Value}(e:iS x sz l vs)(d:l≠[])(h:(l.all fun c=>Nat.beq c.length b)=true):sz=b:=by obtain _|⟨c,l⟩:=l;exact absurd rfl d;rw[<-(tj e 0 c rfl).1];exact z9p h c aZ
def ti{x:Cx}{sz:Nat}:∀{l:X (X U)}{vs:X Value},iS x sz l vs->l.length*sz<=vs.length
 |[],vs,h=>by simp
 |d::l,vs,h=>by simp[iS]at h;have c:=cJ.len h.2.2.1;have b:=ti h.2.2.2;rw[yc]at b;rw[zO,eM];omega
def qu9{x:Cx}{sz:Nat}:∀{l:X (X U)}{vs:X Value},iS x sz l vs->bD x l.flatten (vs.take<|l.length*sz)/\I8 l.flatten=true
 |[],vs,h=>by simpa[I8]using bD.nil x
 |d::l,vs,h=>by
  have i:=ti h;simp[iS]at h;have⟨b,c,f,g⟩:=h;have⟨g1,g2⟩:=qu9 g;refine⟨?_,by simpa using VE c g2⟩;have e:vs.take ((d::l).length*sz)=vs.take d.length++(vs.drop sz).take (l.length*sz):=by rw[zO,eM,zv,NB,b]
  rw[e,YP];exact f.kM.append g1
def qwp(T:Tb)(x:Cx)(t:TypeId)(u:U)(b:Value)(C D:V Value):Prop :=
 (∃v,vO T t b C D=some v/\aF x u v)\/(vO T t b C D=none/\∃v,NO T x.s t b C D=some v/\aF x u v)\/ (vO T t b C D=none/\NO T x.s t b C D=none/\∃v,Lt T x.s t b C D=some (v,(bump x).s)/\aF (bump x) u v)
def A3{b:Nat}(h:a<b):blt a b=true:=ve h
def V3{b:Nat}(h:¬ a<b):blt a b=false:=by rcases c:blt a b with _|_;rfl;exact absurd (Cj c) h
variable{T:Tb}{t:TypeId}{e:TypeId}{i:Nat}{off:Nat}
def qo7(f:T.I1 t=some (.slice e))(A:cP T e=some sz)(F:0<sz){d:Nat}{row:X Value}(L:0<n)(z:off=d*sz)(E:NS x.s i sz=some row)
  (J:off+n*sz<=row.length) (I:o9 n n C D=some (l,h,m)):
  let g:=Value.slice (some ⟨i,off,none⟩) n (dC+d)
  vO T t g C D=none/\(if l<h\/l=0 then NO T x.s t g C D=some (.slice (some ⟨i,(d+l)*sz,none⟩) (h-l)<|dC+(d+l))
   else NO T x.s t g C D=none/\Lt T x.s t g C D=some (.slice (some ⟨x.s.nx,0,none⟩) 0 dC,(bump x).s)):=by
 have c:blt (dC+d) dC=false:=V3 af;obtain⟨G,rfl⟩:∃q,n=q+1:=⟨n-1,by omega⟩;have p:dA (dC+d)=d:=by simp[dA]
 have b:G+1<=(row.length-off)/sz:=by rw[le_div_iff_mul_le F];omega
 obtain⟨y,K,H,_⟩:=V9 I b;have o:ble (off+h*sz) row.length=true:=ve (by have:h*sz<=(G+1)*sz:=tp _ H;omega);refine⟨by simp[vO,f,c,ej],?_⟩;have j:Nat.beq off (d*sz)=true:=by simp[z]
 have B:blt 0 sz=true:=A3 F;cases l with
 |zero=>simp only[or_true,It];simp only[NO,Bo,f,c,zD,A,E,p,j,zC,B,y,o];simp[z]|succ l=>
  by_cases w:l+1<h;simp only[w,true_or,It];simp only[NO,Bo,f,c,zD,A,E,p,j,zC,B,y,o,A3 w];simp[z,dX,ns];have:¬ (l+1<h\/l+1=0):=by omega
  simp only[this,MF];simp only[NO,Lt,Bo,f,c,zD,A,E,p,j,zC,B,y,o,V3 w];simp[bump]
def qzo{s:S}{l:X Value}(h:lk s.h i=some (.inl (l,e,sz+2))):NS s i sz=some l:=by simp[NS,h]
def qzn{s:S}{l:X Value}(h:lk s.h i=some (.inl (l,sz+1,1))):NS s i sz=some l:=by simp[NS,h]
variable{off':Nat}
def z58{k st:Nat}(d:aF x (.ptr k st off) v)(D:x.I k=some i):aF x (.ptr k st off') (.pointer<|some ⟨i,off',none⟩):=by simp only[aF]at*;exact⟨rfl,d.2.1,fun b c=>⟨(d.2.2 b c).1,fun _=>⟨i,D,rfl⟩⟩⟩
def Ue{k st f:Nat}{l:X U}{d:Value}(o:aF x (.vl k st off n) v)(j:gt x.Y.h k=some (.vec l e sz st))(g:d.oneCell'=true)(h:N7 off' f d sz (x.I k)):aF x (.vl k st off' f) d:=by simp[aF]at*;refine⟨g,o.2.1,fun b c=>⟨(o.2.2 b c).1,fun _=>?_⟩⟩;rw[j]at c;cases c;exact⟨l,e,sz,rfl,h⟩
def MI:blt 0 dC=true:=A3 (by simp[dC])
def qi3(b:o9 0 0 C D=some (l,h,m)):l=0/\h=0/\m=0:=by obtain⟨_,c,d,f⟩:=V9 b<|zF _;omega
def qw8{c:Nat}{t:FK}{l:X (X U)}{row:X Value}(z:lk x.s.h i=some (.inl (row,e,1)))(F:iS x sz l (row.drop off))(A:h<=l.length)(y:a<h->off'=off+a*sz)
  (B:t=true->c=h-a/\c<dC) (f:a<h->(c<dC/\h-a<=c)\/(dC<=c/\e=sz+1/\0<sz/\off'=dA c*sz)):aF x (.O t<|vM l a h) (.slice (some ⟨i,off',none⟩) (h-a) c):=by
 have b:=qwz (a:=a) A;simp only[aF];refine .inr ⟨i,off',c,by rw[b],by rw[b];exact B,?_⟩;by_cases g:a<h;have w:row.drop off'=(row.drop off).drop (a*sz):=by rw[kh,y g]
 have d:=z8v (a:=a) (h:=h) F;rw[<-w]at d;refine .inr ⟨row,e,sz,z,d,?_⟩;rw[b];obtain f |⟨o,p,j,q⟩:=f g;exact .inl f;refine .inr ⟨o,p,j,q,?_⟩;have:=ti d;rw[b,yc]at this;have E:0<(h-a)*sz:=Hx af j;omega;exact .inl (Zs (by rw[b];omega))
def z5n(j:T.I1 t=some (.slice e))(o:cP T e=some sz){tt:FK}{l:X (X U)}{u:U}{P:Value}(c5:(l.all fun c=>Nat.beq c.length sz)=true)
  (b:o9 l.length l.length C D=some (a,h,m)) (f:u=.O (cond tt (Nat.beq h l.length) false) (vM l a h)) (L:aF x (.O tt l) P):qwp T x t u P C D:=by
 simp only[aF]at L;obtain⟨rfl,rfl |⟨r,rfl⟩⟩|⟨i,off,c,rfl,B,H⟩:=L;obtain⟨rfl,rfl,rfl⟩:=qi3 b;refine .inl ⟨.slice none 0 0,by simp only[zS]at b;simp[vO,j,b,o,MI],?_⟩;subst f;simp[aF,vM];obtain⟨rfl,rfl,rfl⟩:=qi3 b;refine .inl ⟨.chan<|some r,by simp only[zS]at b;simp[vO,j,b,o],?_⟩;subst f;simp[aF,vM];by_cases G:l=[];subst G;obtain⟨rfl,rfl,rfl⟩:=qi3 b;simp only[zS]at b B;have p:∀(K:FK)(off' E:Nat),(K=true->E=0)->aF x (.O K<|vM [] 0 0) (.slice (some ⟨i,off',none⟩) 0 E):=fun K off' E A=>by simp only[aF];exact .inr ⟨i,off',E,by simp[vM],fun h=>by rw[A h];simp[vM,dC],.inl<|by simp[vM]⟩
 by_cases g:c<dC;simp only[zS]at f;subst f;obtain⟨q,_⟩:=V9 b<|qq c;have y:(cond tt (Nat.beq 0 0) false=true)->c=0:=fun h=>(B (by cases tt<;>simp_all)).1;cases w:Nat.beq c 0 with
 |true=>exact .inl ⟨_,by simp only[zS,vO,j,A3 g,zC,q,o,w]<;>rfl,p _ off c y⟩|false=>exact .inl ⟨_,by simp only[zS,vO,j,A3 g,zC,zD,q,o,w]<;>rfl,p _ _ c y⟩
 simp only[zS]at f;subst f;exact .inl ⟨_,by simp only[zS,vO,j,V3 g,zD,ej,b,o]<;>rfl,p _ off c fun h=>absurd (B (by cases tt<;>simp_all)).2 g⟩;obtain H |⟨row,e',iB,g1,g2,g3⟩:=H;exact absurd H G;have fN:=z57 g2 G c5;subst fN;have jK:0<l.length:=by cases l<;>simp_all
 obtain⟨g,R⟩|⟨g,he,N,I,S⟩:=g3;subst f;obtain⟨q,W,z,Z⟩:=V9 b R;have y:(cond tt (Nat.beq h l.length) false=true)->c-a=h-a/\c-a<dC:=fun M=>by obtain _|_:=tt;simp at M;simp at M;have:=(B rfl).1;omega
 cases w:Nat.beq c a with
 |true=>
  have:c=a:=by simpa[beq_eq]using w
  exact .inl ⟨_,by simp only[vO,j,A3 g,zC,q,o,w]<;>rfl,qw8 g1 g2 z (fun A=>af) y fun A=>af⟩
 |false=>exact .inl ⟨_,by simp only[vO,j,A3 g,zC,zD,q,o,w]<;>rfl,qw8 g1 g2 z (fun A=>rfl) y fun A=>.inl af⟩
 obtain⟨d,rfl⟩:∃d,c=dC+d:=⟨c-dC,by omega⟩;have Q:dA (dC+d)=d:=by simp[dA]
 rw[Q]at I;subst he;have J:tt=false:=by obtain _|_:=tt;rfl;exact absurd (B rfl).2 af
 subst J;simp only[zD]at f;subst f;obtain⟨q,W,z,Z⟩:=V9 b<|zF _;have⟨O,F⟩:=qo7 j o N (i:=i) (n:=l.length) (d:=d) jK I (qzn g1) S b;split at F;exact .inr (.inl ⟨O,_,F,qw8 g1 g2 z (fun _=>by rw[I,dX]) (fun h=>by cases h) fun _=>.inr ⟨by omega,rfl,N,by simp[dA]⟩⟩);refine .inr<|.inr ⟨O,F.1,_,F.2,?_⟩;have hn:(vM l a h)=[]:=Zs (by rw[qwz z];omega);rw[hn];simp only[aF];exact .inr ⟨x.s.nx,0,dC,rfl,(fun h=>by cases h),.inl trivial⟩
def z5o(hx:jV x){a u:U}{M:Value}(h:UP T x.Y t a C D=some u)(w:aF x a M):qwp T x t u M C D:=by
 unfold UP at h;rcases f:T.I1 t with _|d;simp[f]at h;cases d with
 |slice e=>
  simp only[f]at h;rcases p:cP T e with _|sz;simp[p]at h;simp only[p]at h;cases a with
  |vl k st off n=>
   simp only at h;rcases P:pR x.Y k st with _|q;simp[P]at h;obtain⟨r,e',J⟩:=q;obtain⟨y,hl⟩:=SJ P;simp only[P,beq_eq]at h;by_cases Z:J=sz;subst Z;simp only[yC,zC]at h;rcases b:o9 n n C D with _|q;simp[b]at h;obtain⟨l,H,m⟩:=q;simp only[b]at h;split at h;rename_i aT;simp only[zA]at h;subst h;obtain⟨l0,e0,Tv,uK,L⟩:=Mm hl w;have O:(some<|B.vec r e' J st)=some (.vec l0 e0 Tv st):=y.symm.trans uK;cases O;obtain⟨_,k1,k2,h3⟩:=hx.ok k _ y;have zero:∀o c,n=0->M=.slice o 0 c->(∀a,o=some a->a.spot=none)->(o=none->c=0)->∃g s,vO T t M C D=some (.slice g 0 s)/\(c=0->s=0)/\(∀a,g=some a->a.spot=none)/\(o=none->g=none)/\(∀a,o=some a->∃G,g=some G)/\(¬ c<dC->g=o/\s=c):=by
    rintro o c rfl rfl A ho;obtain⟨E,R,S,W⟩:=V9 b<|qq c;obtain rfl:H=0:=by omega
    obtain rfl:l=0:=by omega
    by_cases j:c<dC;obtain _|a:=o;exact⟨none,c,by simp[vO,f,A3 j,E,p],by simp,by simp,by simp,by simp,fun z=>absurd j z⟩;rcases wU:Nat.beq c 0 with _|_;exact⟨some ⟨a.block,a.off+0*J,none⟩,c,by simp only[vO,f,A3 j,E,p,wU,zC,zD,wm],by simp,by simp,by simp,by simp,fun z=>absurd j z⟩;exact⟨some a,c,by simp only[vO,f,A3 j,E,p,wU,zC,wm],by simp,by simpa using A a rfl,by simp,by simp,fun z=>absurd j z⟩;obtain _|a:=o;exact absurd (by rw[ho rfl];simp[dC]) j;obtain rfl:m=0:=by omega
    exact⟨some a,c,by simp only[vO,f,V3 j,zD,ej,b,p],by simp,by simpa using A a rfl,by simp,by simp,fun _=>⟨rfl,rfl⟩⟩
   have N:n=0->l=0/\H=0:=fun Q_=>by obtain⟨E,R,S,W⟩:=V9 b<|zF _;omega
   obtain⟨yL,kJ⟩|⟨i,l',F,e2,e3⟩:=h3;rw[kJ]at L;obtain⟨rfl,rfl,o,rfl,A⟩:=L;obtain⟨rfl,rfl⟩:=N rfl;obtain⟨g,s,q1,q2,q3,q4,q5,q6⟩:=zero o 0 rfl rfl A (fun _=>rfl);rw[q2 rfl]at q1;exact .inl ⟨_,q1,Ue w y rfl (by rw[kJ];exact⟨rfl,rfl,g,rfl,q3⟩)⟩;rw[F]at L;obtain⟨h0,rfl,a,c,rfl,A⟩|rfl:=L;obtain⟨rfl,rfl⟩:=N rfl;obtain⟨g,s,q1,q2,q3,q4,q5,q6⟩:=zero (some a) c rfl rfl (by simpa using A) aZ;obtain⟨G,rfl⟩:=q5 a rfl;exact .inl ⟨_,q1,Ue w y rfl (by rw[F];exact .inl ⟨by omega,rfl,G,s,rfl,q3 G rfl⟩)⟩;by_cases z:n=0;subst z;obtain⟨rfl,rfl⟩:=N rfl;obtain⟨g,s,q1,q2,q3,q4,q5,q6⟩:=zero (some ⟨i,off*J,none⟩) (dC+off) rfl rfl aZ aZ;obtain⟨rfl,rfl⟩:=q6 af;exact .inl ⟨_,q1,Ue w y rfl (by rw[F];exact .inr rfl)⟩;have:=qo7 f p k2 (i:=i) (n:=n) (d:=off) af rfl (qzo e2) (by rw[<-e3.2,<-dX];exact aT) b;obtain⟨s1,K⟩:=this;split at K;exact .inr (.inl ⟨s1,_,K,Ue w y rfl (by rw[F];exact .inr rfl)⟩);rename_i aG;obtain⟨E,R,S,W⟩:=V9 b<|zF _;refine .inr<|.inr ⟨s1,K.1,_,K.2,?_⟩;have cZ:=qpz w;have Q:H-l=0:=by omega
   rw[Q];exact Ue (x:=bump x) cZ y rfl (by show N7 _ _ _ _ (x.I k);rw[F];exact .inl ⟨by omega,rfl,_,_,rfl,rfl⟩);cases h;simp[Z]at h
  |O tt l=>simp only at h;split at h;rename_i c5;rcases b:o9 l.length l.length C D with _|q;simp[b]at h;obtain⟨a,H,m⟩:=q;simp only[b]at h;simp only[zA]at h;exact z5n f p (tt:=tt) c5 b h.symm w;cases h
  |_=>simp at h
 |_=>simp[f]at h
variable{T:Tb}{x:Cx}{a:U}{u:U}{G:Value}
def qv5{st:TypeId}{f:Nat}(h:Vi T x.Y st a f=some u)(b:aF x a G):∃v,Vh T st G f=some v/\aF x u v:=by
 unfold Vi at h;unfold Vh;rcases c:T.I1 st with _|d;simp[c]at h;cases d with
 |struct p=>
  simp[c]at h ⊢;rcases o:nth p.toList f with _|fd;simp[o]at h;simp[o]at h ⊢;rcases j:cP T fd.type with _|n;simp[j]at h;cases n with
  |zero=>simp[j]at h|succ n=>
   simp[j]at h;cases a with
   |ptr k s off=>simp only at h;rcases g:live x.Y k s with _|_;simp[g]at h;simp[g,zC,zA]at h;subst h;obtain⟨i,D,rfl⟩:=Cg g b;exact⟨_,rfl,z58 b D⟩
   |b4 l=>simp[zA]at h;subst h;simp only[aF]at b;obtain⟨i,off,row,e,rfl,q,w,y⟩:=b;refine⟨_,rfl,?_⟩;simp only[aF];exact⟨i,off+fd.offset,row,e,rfl,q,by rw[<-kh];exact w.drop _,HU y _⟩
   |_=>simp at h
 |_=>simp[c]at h
def z2c{st:TypeId}{f:Nat}(h:XF T st a f=some u)(c:aF x a G):∃v,Uh T st G f=some v/\aF x u v:=by
 unfold XF at h;unfold Uh;rcases b:T.I1 st with _|d;simp[b]at h;cases d with
 |struct j=>
  simp[b]at h ⊢;rcases g:nth j.toList f with _|fd;simp[g]at h;simp[g]at h ⊢;cases a with
  |agg s=>simp[aF]at c;obtain⟨vs,rfl,o,p,q⟩:=c;exact qyi h ⟨o,p⟩ q
  |_=>simp at h
 |_=>simp[b]at h
def NR{i:Int}{n:Nat}(h:0<=i/\i<n):uH i n=true:=by
 unfold uH;cases i with
 |ofNat k=>exact A3 (by have:=h.2;simp at this;exact this)|negSucc k=>have:=h.1;omega
variable{t:TypeId}
def qv9(M:jV x){b:U}{H:Value}(h:EG T x.Y t a b=some u)(f:aF x a G)(s:aF x b H):∃v,Vd T t G H=some v/\aF x u v:=by
 unfold EG at h;cases b with
 |int k i=>
  simp[aF]at s;subst s;simp[Vd];simp only at h;rcases z:T.I1 t with _|d;simp[z]at h;cases d with
  |slice e=>
   simp[z]at h;rcases j:cP T e with _|sz;simp[j]at h;simp[j]at h;cases a with
   |sl k off n c=>simp only at h;rcases g:live x.Y k 0 with _|_;simp[g]at h;simp only[g,zC]at h;split at h;rename_i i8;simp[zA]at h;subst h;obtain⟨o,D,rfl,_⟩:=Mn g f;refine⟨_,by simp[NR i8,zC,j]<;>rfl,?_⟩;have⟨b,q1,q2⟩:=Vo g;simp only[aF]at f ⊢;exact⟨rfl,f.2.1,fun b s=>⟨qq _,fun _=>⟨o,D,rfl⟩⟩⟩;cases h
   |vl k st off n=>simp only at h;rcases B:pR x.Y k st with _|q;simp[B]at h;have⟨l,y,F⟩:=q;have⟨L,g⟩:=SJ B;simp[B,beq_eq]at h;by_cases p:F=sz;subst p;simp only[yC,zC]at h;split at h;rename_i i8;simp[zA]at h;subst h;obtain⟨o,l0,P,N,l',J,A,rfl,E,R,S,W⟩:=qs3 M g f af;have:=L.symm.trans J;cases this;refine⟨_,by simp[NR ⟨i8.1,i8.2.1⟩,zC,j]<;>rfl,?_⟩;simp only[aF]at f ⊢;refine⟨rfl,f.2.1,fun b s=>⟨(f.2.2 b s).1,fun _=>⟨o,A,rfl⟩⟩⟩;cases h;simp[p]at h
   |O tt l=>simp only at h;split at h;rename_i i8;rcases w:l[i.toNat]? with _|c;simp[w]at h;simp[w,beq_eq]at h;by_cases p:c.length=sz;simp[p,yC,zC,zA]at h;subst h;simp only[aF]at f;obtain⟨rfl,_⟩|⟨o,off,O,rfl,Z,I⟩:=f;simp at w;obtain rfl |⟨row,y,F,g1,g2,Q⟩:=I;simp at w;obtain⟨q1,q2,q3⟩:=tj g2 _ _ w;refine⟨_,by simp only[NR i8,zC,j]<;>rfl,?_⟩;simp only[aF];refine⟨o,off+i.toNat*sz,row,y,rfl,g1,?_,q2⟩;rw[kh]at q3;rw[<-p,q1];exact q3;simp[p]at h;cases h
   |_=>simp at h
  |array n e=>
   simp[z]at h;rcases j:cP T e with _|sz;simp[j]at h;simp[j]at h;cases a with
   |ptr k st off=>simp only at h;rcases g:live x.Y k st with _|_;simp[g]at h;simp only[g,zC]at h;split at h;rename_i i8;simp[zA]at h;subst h;obtain⟨o,D,rfl⟩:=Cg g f;exact⟨_,by simp[NR i8,zC,j]<;>rfl,z58 f D⟩;cases h
   |b4 l=>simp only at h;split at h;rename_i i8;simp[zA]at h;subst h;simp only[aF]at f;obtain⟨o,off,row,y,rfl,A,K,E⟩:=f;refine⟨_,by simp[NR i8,zC,j]<;>rfl,?_⟩;simp only[aF];exact⟨o,_,row,y,rfl,A,by rw[<-kh];exact K.drop _,HU E _⟩;cases h
   |_=>simp at h
  |_=>simp[z]at h
 |_=>simp at h
def z2v{b:U}{o:Value}(h:bg T t a b=some u)(f:aF x a G)(g:aF x b o):∃v,Bs T t G o=some v/\aF x u v:=by
 unfold bg at h;cases a with
 |agg w=>
  simp only at h;cases b with
  |int k i=>
   simp[aF]at f g;subst g;obtain⟨vs,rfl,p,q,s⟩:=f;simp only at h;rcases c:T.I1 t with _|d;simp[c]at h;cases d with
   |array n e=>simp only[c]at h;split at h;rename_i i8;rcases j:cP T e with _|sz;simp[j]at h;simp[j]at h;have⟨v,q1,q2⟩:=qyi h ⟨p,q⟩ s;exact⟨v,by simp[Bs,c,NR i8,zC,j];exact q1,q2⟩;cases h
   |_=>simp[c]at h
  |_=>simp at h
 |_=>exact XJ h f g
def zcb(p:jV x)(h:yU T x.Y t a=some u)(b:aF x a G):
  ∃v,K0 T t G=some v/\aF x u v:=by
 unfold yU at h;unfold K0;rcases g:T.I1 t with _|d;simp[g]at h;cases d with
 |string=>
  simp only[g]at h ⊢;cases a with
  |str s=>simp only[zA]at h;subst h;simp only[aF]at b;subst b;exact⟨_,rfl,by simp[aF]⟩|_=>simp at h
 |slice e=>
  simp[g]at h ⊢;cases a with
  |J=>simp[zA]at h;subst h;simp[aF]at b;subst b;exact⟨_,rfl,by simp[aF]⟩|sl k off n c=>simp only at h;rcases f:live x.Y k 0 with _|_;simp[f]at h;simp[f,zC,zA]at h;subst h;obtain⟨i,_,rfl,_⟩:=Mn f b;exact⟨_,rfl,by simp[aF]⟩
  |vl k st off n=>simp only at h;rcases f:live x.Y k st with _|_;simp[f]at h;simp[f,zC,zA]at h;subst h;have⟨_,_,_,_,j⟩:=Mm f b;obtain⟨o,c,rfl⟩:=zbe j;exact⟨_,rfl,by simp[aF]⟩
  |O q l=>simp[zA]at h;subst h;simp[aF]at b;obtain⟨rfl,rfl |⟨_,rfl⟩⟩|⟨_,_,_,rfl,_⟩:=b<;>exact⟨_,rfl,by simp[aF]⟩
  |_=>simp at h
 |array n e=>simp only[g]at h ⊢;cases a<;>simp at h<;>subst h<;>exact⟨_,rfl,by simp[aF]⟩|_=>simp[g]at h
def z8n(P:jV x){F:X U}{A:X Value}(E:bD x F A){op:Op}(h:iV T x.Y F op=some u):tZ T x A op u x.Y:=by
 have one:∀v,kP T A op=some v->aF x u v->tZ T x A op u x.Y:=fun v w y=>tZ.same P (z8d w) y;unfold iV at h;cases op with
 |move o=>have⟨v,w,y⟩:=kG E h;exact one v (by simp[kP,w]) y
 |assign o=>have⟨v,w,y⟩:=kG E h;exact one v (by simp[kP,w]) y
 |pick c a b=>
  simp only at h;rcases R:cX F c with _|cu;simp[R]at h;have⟨cv,c1,c2⟩:=kG E R;cases cu with
  |bool t=>
   simp[aF]at c2;subst c2;cases t with
   |true=>simp[R]at h;have⟨v,w,y⟩:=kG E h;exact one v (by simp[kP,c1,w]) y
   |false=>simp[R]at h;have⟨v,w,y⟩:=kG E h;exact one v (by simp[kP,c1,w]) y
  |_=>simp[R]at h
 |build t ps=>simp only at h;rcases hp:BW F ps.toList with _|qs;simp[hp]at h;simp[hp]at h;have⟨vs,w,y⟩:=Ru E hp;have⟨v,L,h4⟩:=z1h h y;exact one v (by simp[kP,w,L]) h4
 |nilCheck o=>
  simp only at h;rcases O:cX F o with _|a;simp[O]at h;have⟨G,B,z⟩:=kG E O;cases a with
  |ptr k st off=>simp[O]at h;rcases hl:live x.Y k st with _|_;simp[hl]at h;simp[hl,zC,zA]at h;subst h;obtain⟨i,D,rfl⟩:=Cg hl z;exact one _ (by simp[kP,B]) z
  |b4 l=>simp[O,zA]at h;subst h;have a3:=z;simp only[aF]at z;obtain⟨i,off,row,e,rfl,_⟩:=z;exact one _ (by simp[kP,B]) a3
  |fn f p q=>
   cases f with
   |func g=>simp[O,zA]at h;subst h;have a3:=z;simp[aF]at z;obtain⟨i,off,rfl,_⟩:=z;exact one _ (by simp[kP,B]) a3
   |_=>simp[O]at h
  |_=>simp[O]at h
 |binOp o t a b ty=>simp only at h;rcases j:cX F a with _|I;simp[j]at h;rcases H:cX F b with _|bu;simp[j,H]at h;simp[j,H]at h;have⟨G,B,z⟩:=kG E j;have⟨vb,N,M⟩:=kG E H;have⟨v,w,y⟩:=zbl P h z M;exact one v (by simp[kP,B,N,w]) y
 |unOp o t a=>simp only at h;rcases j:cX F a with _|I;simp[j]at h;simp[j]at h;have⟨G,B,z⟩:=kG E j;have⟨v,w,y⟩:=XK h z;exact one v (by simp[kP,B,w]) y
 |convert s d a=>simp only at h;rcases j:cX F a with _|I;simp[j]at h;simp[j]at h;have⟨G,B,z⟩:=kG E j;have⟨v,w,y⟩:=XK h z;exact one v (by simp[kP,B,w]) y
 |makeFunc f a b=>simp only at h;rcases j:pT F a.toList with _|I;simp[j]at h;rcases H:pT F b.toList with _|bu;simp[j,H]at h;simp[j,H,zA]at h;subst h;have⟨G,B,z⟩:=Cn E j;have⟨vb,N,M⟩:=Cn E H;exact one _ (by simp[kP,B,N]<;>rfl) (by simp only[aF];exact⟨G,vb,rfl,z.1,z.2,M.1,M.2⟩)
 |slice t a C D mx=>
  cases mx with|some _=>simp at h|none=>
  simp only at h;rcases j:cX F a with _|I;simp[j]at h;rcases w:D1 F C with _|lo';simp[j,w]at h;rcases y:D1 F D with _|iX;simp[j,w,y]at h;simp[j,w,y]at h;have⟨G,B,z⟩:=kG E j;have J:=qsw E w;have K:=qsw E y;obtain⟨v,Z,s2⟩|⟨s0,v,Z,s2⟩|⟨s0,Z,v,s2,s3⟩:=z5o P h z;exact one v (by simp[kP,B,J,K,Z]) s2;exact tZ.same P (qqp (by simp[kP,B,J,K,s0])<|by simp[xS,B,J,K,Z]) s2;exact⟨v,bump x,qy4 (by simp[kP,B,J,K,s0]) (by simp[xS,B,J,K,Z]) (by simp[CQ,B,J,K,s2]),rfl,s3,z75 P⟩
 |fieldAddr t a f=>simp only at h;rcases j:cX F a with _|I;simp[j]at h;simp[j]at h;have⟨G,B,z⟩:=kG E j;have⟨v,w,y⟩:=qv5 h z;exact one v (by simp[kP,B,w]) y
 |field t a f=>simp only at h;rcases j:cX F a with _|I;simp[j]at h;simp[j]at h;have⟨G,B,z⟩:=kG E j;have⟨v,w,y⟩:=z2c h z;exact one v (by simp[kP,B,w]) y
 |indexAddr t a b=>simp only at h;rcases j:cX F a with _|I;simp[j]at h;rcases H:cX F b with _|bu;simp[j,H]at h;simp[j,H]at h;have⟨G,B,z⟩:=kG E j;have⟨vb,N,M⟩:=kG E H;have⟨v,w,y⟩:=qv9 P h z M;exact one v (by simp[kP,B,N,w]) y
 |index t a b=>simp only at h;rcases j:cX F a with _|I;simp[j]at h;rcases H:cX F b with _|bu;simp[j,H]at h;simp[j,H]at h;have⟨G,B,z⟩:=kG E j;have⟨vb,N,M⟩:=kG E H;have⟨v,w,y⟩:=z2v h z M;exact one v (by simp[kP,B,N,w]) y
 |extract a i=>
  simp only at h;rcases j:cX F a with _|I;simp[j]at h;simp[j]at h;have⟨G,B,z⟩:=kG E j;cases I with
  |a7 l=>simp[aF]at z;obtain⟨vs,rfl,q1,q2⟩:=z;simp[F',lW]at h;have⟨v,w,y⟩:=(show bD x l vs from⟨q1,q2⟩).get h;exact one v (by simp[kP,B,Nf,lW,w]) y
  |_=>simp[F']at h
 |call c=>
  simp only at h;have⟨callee,args,ats⟩:=c;cases callee with
  |builtin b=>
   cases b with
   |len=>
    simp only at h;rcases j:pT F args.toList with _|us;simp[j]at h;have⟨vs,B,z⟩:=Cn E j;rcases Ic:ats.toList with _|⟨t,ts⟩;simp[j,Ic]at h;obtain _|⟨a,l⟩:=us;simp[j]at h;cases l with
    |cons _ _=>simp[j]at h|nil=>obtain⟨G,Q,rfl,S,W⟩:=z.inv;rw[W.K4]at B;simp[j,Ic]at h;have⟨v,q1,q2⟩:=zcb P h S;exact one v (by simp[kP,B,Ic,q1]) q2
   |max=>simp only at h;rcases j:pT F args.toList with _|us;simp[j]at h;have⟨vs,B,z⟩:=Cn E j;obtain _|⟨a,l⟩:=us;simp[j]at h;obtain⟨G,Q,rfl,S,W⟩:=z.inv;simp[j]at h;rcases w:cf a with _|v1;simp[w]at h;rcases y:mO l with _|v2;simp[w,y]at h;simp[w,y]at h;have J:=(NU a v1 w x G).1 S;have K:=(QD l v2 y x Q).1 W;subst J;subst K;rcases L:yZ UL G Q with _|r;simp[L]at h;simp[L]at h;exact one r (by simp[kP,B,L]) ((Bq r u h).2 x)
   |min=>simp only at h;rcases j:pT F args.toList with _|us;simp[j]at h;have⟨vs,B,z⟩:=Cn E j;obtain _|⟨a,l⟩:=us;simp[j]at h;obtain⟨G,Q,rfl,S,W⟩:=z.inv;simp[j]at h;rcases w:cf a with _|v1;simp[w]at h;rcases y:mO l with _|v2;simp[w,y]at h;simp[w,y]at h;have J:=(NU a v1 w x G).1 S;have K:=(QD l v2 y x Q).1 W;subst J;subst K;rcases L:yZ UK G Q with _|r;simp[L]at h;simp[L]at h;exact one r (by simp[kP,B,L]) ((Bq r u h).2 x)
   |_=>simp at h
  |_=>simp at h
 |_=>simp at h
def qxs{l:X U}{off:Nat}{f:X Value}(h:HJ T t l off=some u)(b:cJ x l f)(y:I8 l=true):
  ∃v,(match T.I1 t with
    |none=>none|some d=>cond (sG d) (match cP T t with
      |some n=>match xM f off n with
       |some j=>some (.agg j.toArray)|none=>none
      |none=>none)<|nth f off)=some v/\aF x u v:=by
 unfold HJ at h;rcases q:T.I1 t with _|d;simp[q]at h;simp[q]at h ⊢;cases p:sG d with
 |true=>
  simp[p,zC]at h ⊢;rcases s:cP T t with _|n;simp[s]at h;simp[s]at h ⊢;rcases g:mD l off n with _|j;simp[g]at h;simp[g,zA]at h;subst h;obtain⟨A,rfl⟩:=VA g;have z:=cJ.len b;rw[gk af];refine⟨_,rfl,?_⟩;simp only[aF];have:=(b.drop off).kM;have o:bD x ((l.drop off).take n) ((f.drop off).take n):=by refine bD.mk' (by simp;omega) fun i u c=>?_;rw[jz]at c ⊢;split at c;rename_i w;simp only[w,It];exact(JL x _ _).1 (b.drop off) i u c;cases c
  exact⟨_,rfl,o.1,o.2,V6 (HU y _) _⟩
 |false=>simp[p,zD,lW]at h ⊢;exact(JL x _ _).1 b _ _ h
def ql7(y:jV x){k st:Nat}{l:X U}(h:cellsOf x.Y k st=some l){off:Nat}{v:Value}(M:aF x (.ptr k st off) v):
  ∃i d e j,x.I k=some i/\v=.pointer (some ⟨i,off,none⟩)/\lk x.s.h i=some (.inl (d,e,j))/\j≠1/\bD x l d/\I8 l=true/\
   ((j=0/\gt x.Y.h k=some (.row l e))\/(∃sz,j=sz+2/\0<sz/\gt x.Y.h k=some (.vec l e sz st))):=by
 unfold cellsOf at h;rcases c:gt x.Y.h k with _|b;simp[c]at h;cases b with
 |row H e=>simp[c,beq_eq]at h;by_cases f:0=st;subst f;simp at h;subst h;obtain⟨i,D,rfl⟩:=Cg (x:=x) (by simp[live,c,B.st]) M;have⟨_,q,E,d,g,o,p⟩:=y.ok k _ c;rw[D]at g;cases g;exact⟨i,d,e,0,D,rfl,o,by omega,p,q,.inl ⟨rfl,rfl⟩⟩;simp[f]at h
 |vec H e sz z=>simp[c,beq_eq]at h;by_cases f:z=st;subst f;simp at h;subst h;obtain⟨i,D,rfl⟩:=Cg (x:=x) (by simp[live,c,B.st]) M;have⟨_,q,F,A⟩:=y.ok k _ c;obtain⟨L,w⟩|⟨E,d,g,o,p⟩:=A;rw[D]at w;cases w;rw[D]at g;cases g;exact⟨i,d,e,sz+2,D,rfl,o,by omega,p,q,.inr ⟨sz,rfl,F,rfl⟩⟩;simp[f]at h
 |map K J=>simp[c]at h
def qyp(j:jV x){q:X U}{A:X Value}(E:bD x q A){op:Op}(h:tB T x.Y q op=some u):tZ T x A op u x.Y:=by
 unfold tB at h;cases op with
 |load t o=>
  simp only at h;rcases c:cX q o with _|a;simp[c]at h;have⟨G,s,f⟩:=kG E c;cases a with
  |ptr k st off=>simp[c]at h;rcases g:cellsOf x.Y k st with _|l;simp[g]at h;simp[g]at h;obtain⟨i,F,e,H,q1,rfl,q2,_,q3,q4,_⟩:=ql7 j g f;have⟨v,b,p⟩:=qxs h q3.1 q4;exact tZ.same j (qqp (by simp[kP]) (by simp[xS,s,q2];exact b)) p
  |b4 l=>
   simp[c]at h;simp only[aF]at f;obtain⟨i,off,row,e,rfl,g1,g2,B⟩:=f;have⟨v,b,p⟩:=qxs h g2 B;refine tZ.same j (qqp (by simp[kP]) (v:=v) ?_) p;simp[xS,s,g1];rcases y:T.I1 t with _|d;simp[y]at b;simp[y]at b ⊢;cases w:sG d with
   |true=>simp[w,zC]at b ⊢;rcases z:cP T t with _|n;simp[z]at b;simp[z,xM,kh,eT]at b ⊢;exact b
   |false=>simp[w,zD,lW,pc,eT]at b ⊢;exact b
  |_=>simp[c]at h
 |_=>simp at h
variable{x:Cx}{k:Nat}{b:B}
def oR.mono{y:Cx}(h:oR x k b)(hm:Mo x.Y.nx x y)(w:y.I k=x.I k)(A:∀i c,x.I k=some i->lk x.s.h i=some c->lk y.s.h i=some c):oR y k b:=by
 have p:∀{q:X ME}{d:X MapEntry},yW x q d->yW y q d:=fun{q d} f=>⟨f.1,fun j e K=>by have⟨v,q1,q2,q3,q4⟩:=f.2 j e K;exact⟨v,q1,hm.ke _ _ (aF.K3 _ _ q2) q2,hm.ke _ _ (aF.K3 _ _ q3) q3,q4⟩⟩;cases b with
 |row l e=>have⟨F,i,H,g,o,f⟩:=h;exact⟨F,i,H,by rw[w,g],A _ _ g o,hm.ke.E f.K3 f⟩
 |vec l e sz st=>have⟨F,L,z⟩:=h;refine⟨F,L,?_⟩;obtain⟨z,J⟩|⟨i,H,g,o,f⟩:=z;exact .inl ⟨z,by rw[w,J]⟩;exact .inr ⟨i,H,by rw[w,g],A _ _ g o,hm.ke.E f.K3 f⟩
 |map q M=>have⟨i,d,g,o,f⟩:=h;exact⟨i,d,by rw[w,g],A _ _ g o,p f⟩
def oR.pH{i:Nat}(h:oR x k b)(D:x.I k=some i){row:X Value}{e:TypeId}:lk x.s.h i≠some (.inl (row,e,1)):=by
 intro f;cases b with
 |row l o=>have⟨_,j,w,c,d,_⟩:=h;rw[D]at c;cases c;rw[f]at d;cases d
 |vec l o sz st=>have⟨_,_,q⟩:=h;obtain⟨_,g⟩|⟨j,w,c,d,_⟩:=q;rw[D]at g;cases g;rw[D]at c;cases c;rw[f]at d;cases d
 |map z y=>have⟨j,p,c,d,_⟩:=h;rw[D]at c;cases c;rw[f]at d;cases d
def jb{y:Cx}(o:jV x)(K:Nat)(J:B)(hn:x.Y.nx<=y.Y.nx)(hK:K<y.Y.nx)(Q:∀k,k≠K->gt y.Y.h k=gt x.Y.h k/\y.I k=x.I k)(i7:gt y.Y.h K=some J)
  (qM:(∃E,gt x.Y.h K=some E/\E.st<=J.st/\(E.st=J.st->y.I K=x.I K/\∀l e sz st,E=.vec l e sz st->∃l',J=.vec l' e sz st))\/(gt x.Y.h K=none/\x.Y.nx<=K)) (R:∀i b,lk x.s.h i=some b->(∀c,gt x.Y.h K=some c->x.I K≠some i)->lk y.s.h i=some b)
  (tT:∀i,y.I K=some i->(∃c,gt x.Y.h K=some c/\x.I K=some i)\/x.s.nx<=i) (j7:∀i b,lk y.s.h i=some b->i<y.s.nx) (hB:Mo x.Y.nx x y->oR y K J):Out x y:=by
 have S:Mo x.Y.nx x y:=by refine⟨fun k hk _=>⟨by omega,fun A H=>?_⟩,fun i row e P=>R i _ P fun c j Z=>(o.ok K c j).2.pH Z P⟩;by_cases e:k=K;subst e;rw[i7]at H;cases H;obtain⟨E,p,g,M⟩|⟨_,g⟩:=qM;exact⟨E,p,g,M⟩;omega;have⟨p,g⟩:=Q k e;exact⟨A,by rw[<-p,H],zF _,fun _=>⟨g,fun l e sz st h=>⟨l,h⟩⟩⟩
 have cB:∀k b i c,k≠K->gt x.Y.h k=some b->x.I k=some i->gt x.Y.h K=some c->x.I K≠some i:=fun k b i c hk f D j Z=>hk<|o.inj k K b c i f j D Z;refine⟨⟨fun k b f=>?_,fun k z b A i f H D iX=>?_,j7⟩,S,fun F O i b f=>?_⟩;by_cases e:k=K;subst e;rw[i7]at f;cases f;exact⟨hK,hB S⟩;have⟨p,g⟩:=Q k e;rw[p]at f;have⟨M,N⟩:=o.ok k b f;exact⟨by omega,N.mono S g fun i c D P=>R i c P fun d W=>cB k b i d e f D W⟩;have own:∀k b i,k≠K->gt y.Y.h k=some b->y.I k=some i->gt x.Y.h k=some b/\x.I k=some i/\i<x.s.nx:=fun k b i e f D=>by
  have⟨p,g⟩:=Q k e;rw[p]at f;rw[g]at D;refine⟨f,D,?_⟩;have:=(o.ok k b f).2;cases b with
  |row l e=>have⟨_,i',l',q,L,_⟩:=this;rw[D]at q;cases q;exact o.bd _ _ L
  |vec l w sz st=>have⟨_,_,M⟩:=this;obtain⟨_,N⟩|⟨i',l',q,L,_⟩:=M;rw[D]at N;cases N;rw[D]at q;cases q;exact o.bd _ _ L
  |map es cl=>have⟨i',es',q,L,_⟩:=this;rw[D]at q;cases q;exact o.bd _ _ L
 by_cases e:k=K;by_cases w:z=K;rw[e,w];exfalso;subst e;have⟨q1,q2,q3⟩:=own z A i w H iX;obtain⟨c,j,qN⟩|LF:=tT i D;exact w<|o.inj z k A c i q1 j q2 qN;omega;by_cases w:z=K;exfalso;subst w;have⟨q1,q2,q3⟩:=own k b i e f D;obtain⟨c,j,qN⟩|LF:=tT i iX;exact e<|o.inj k z b c i q1 j q2 qN;omega;have⟨q1,q2,_⟩:=own k b i e f D;have⟨q3,q4,_⟩:=own z A i w H iX;exact o.inj k z b A i q1 q3 q2 q4;have⟨p,g⟩:=O i b f;refine⟨R i b p fun c j=>g K c j,fun k c j D=>?_⟩;by_cases e:k=K;subst e;obtain⟨d,W,bH⟩|LF:=tT i D;exact g k d W bH;have:=o.bd i b p;omega;have⟨q1,q2⟩:=Q k e;rw[q1]at j;rw[q2]at D;exact g k c j D
def nI(I:Nat->V Nat)(k:Nat)(o:V Nat):Nat->V Nat:=fun j=>if j=k then o else I j
def qo4(I:Nat->V Nat)(k:Nat)(o:V Nat):nI I k o k=o:=by simp[nI]
def V!(I:Nat->V Nat){j:Nat}(o:V Nat)(h:j≠k):nI I k o j=I j:=by simp[nI,h]
def XI(c:jV x):gt x.Y.h x.Y.nx=none:=by rcases h:gt x.Y.h x.Y.nx with _|b;rfl;have:=(c.ok _ b h).1;omega
def qrx(g:jV x)(b:B)(c:nT)(o:∀y:Cx,y.I x.Y.nx=some x.s.nx->lk y.s.h x.s.nx=some c->Mo x.Y.nx x y->oR y x.Y.nx b):
  Out x ⟨nI x.I x.Y.nx<|some x.s.nx,bE x.Y b,⟨(x.s.nx,c)::x.s.h,x.s.nx+1⟩⟩:=by refine jb g x.Y.nx b (by simp[bE]) (by simp[bE]) (fun k j=>⟨by simp[bE,aR,WV j],V! _ _ j⟩) (by simp[bE,aR]) (.inr ⟨XI g,zF _⟩) (fun i d f _=>?_) (fun i D=>?_) (fun i d f=>?_) (fun hm=>?_);have:=g.bd i d f;simp[nU,show x.s.nx≠i by omega,f];change nI _ _ _ _=some i at D;rw[qo4]at D;cases D;exact .inr<|zF _;simp[nU]at f;split at f;show i<x.s.nx+1;omega;exact Ze<|g.bd i d f;exact o _ (by simp[nI]) (by simp[nU]) hm
def qo8(c:jV x)(e:TypeId)(sz:Nat)(g:0<sz):Out x ⟨nI x.I x.Y.nx none,bE x.Y<|.vec [] e sz 0,x.s⟩:=by refine jb c x.Y.nx (.vec [] e sz 0) (by simp[bE]) (by simp[bE]) (fun k f=>⟨by simp[bE,aR,WV f],V! _ _ f⟩) (by simp[bE,aR]) (.inr ⟨XI c,zF _⟩) (fun i d j _=>j) (fun i D=>?_) c.bd (fun hm=>?_);change nI _ _ _ _=some i at D;rw[qo4]at D;cases D;exact⟨rfl,g,.inl ⟨rfl,by simp[nI]⟩⟩
def Uq{c:nT}{st:Nat}(f:b.st=st){p:V Nat->Prop}(g:p (some x.s.nx)):Ref ⟨nI x.I x.Y.nx<|some x.s.nx,bE x.Y b,⟨(x.s.nx,c)::x.s.h,x.s.nx+1⟩⟩ x.Y.nx st p:=by refine⟨by simp[bE],fun j d=>?_⟩;simp[bE,aR,It,zA]at d;subst d;exact⟨pe f.symm,fun _=>by simpa[nI]using g⟩
def Ux(p:jV x){K i:Nat}{f bK:B}{c:nT}(g:gt x.Y.h K=some f)(D:x.I K=some i){w:nT}(q:lk x.s.h i=some w)(A:f.st=bK.st)(J:∀l e sz st,f=.vec l e sz st->∃L,bK=.vec L e sz st)
  (E:∀y:Cx,y.I K=some i->lk y.s.h i=some c->Mo x.Y.nx x y->oR y K bK):Out x ⟨x.I,⟨ug x.Y.h K bK,x.Y.nx⟩,⟨up x.s.h i c,x.s.nx⟩⟩:=by refine jb p K bK (zF _) (p.ok K _ g).1 (fun k H=>⟨by simp[bV,WV H],rfl⟩) (by simp[bV,g]) (.inl ⟨f,g,pe A,fun _=>⟨rfl,J⟩⟩) (fun j d o z=>?_) (fun j F=>.inl ⟨f,g,F⟩) (fun j d o=>?_) (fun hm=>?_);have:i≠j:=fun e=>z f g (by rw[D,e]);simp[FO,this,o];simp[FO]at o;split at o;rename_i e;subst e;exact p.bd i _ q;exact p.bd j d o;exact E _ D (by simp[FO,q]) hm
def XG{c:X U}{z:X Value}(h:bD x c z)(n:Nat):bD x (zE c n) (dK z n):=by induction n with|zero=>exact bD.nil x|succ n d=>simp[zE,Gi,YP,dK];exact h.append d
def z9h{c:X U}(h:I8 c=true)(n:Nat):I8 (zE c n)=true:=by induction n with|zero=>rfl|succ n d=>simp[zE,Gi,YP];exact VE h d
section
variable{T:Tb}{x:Cx}(c:jV x){tm:X U}{A:X Value}(f:bD x tm A)
include c
def av{l:X U}{d:X Value}(g:bD x l d)(p:I8 l=true)(e:TypeId):Out x ⟨nI x.I x.Y.nx<|some x.s.nx,bE x.Y<|.row l e,Rx.newRow x.s d e 0⟩:=
 qrx c (.row l e) (.inl (d,e,0)) fun y j o hm=>⟨p,x.s.nx,d,j,o,hm.ke.E g.K3 g⟩
def qpe{l:X U}{d:X Value}(g:bD x l d)(q:I8 l=true)(e:TypeId){sz:Nat}(j:0<sz):Out x ⟨nI x.I x.Y.nx<|some x.s.nx,bE x.Y<|.vec l e sz 0,Rx.newRow x.s d e<|sz+2⟩:=
 qrx c (.vec l e sz 0) (.inl (d,e,sz+2)) fun y o p hm=>⟨q,j,.inr ⟨x.s.nx,d,o,p,hm.ke.E g.K3 g⟩⟩
variable{t:TypeId}{r:U}{Y':Sg}
def z5v{p u:U}{S O:Value}(h:Bn T x.Y t p u=some (r,Y'))(W:aF x p S)(Z:aF x u O):
  ∃v y,Ls T x.s t S O=some (v,y.s)/\y.Y=Y'/\aF y r v/\Out x y:=by
 unfold Bn at h;cases p with
 |ptr k st off=>
  simp only at h;rcases N:cP T t with _|n;simp[N]at h;simp[N]at h;rcases M:xX u with _|cs;simp[M]at h;simp[M]at h;have⟨w,F⟩:=TT Z M;rcases q:Nat.beq cs.length n with _|_;simp[q]at h;simp[q,zC,F]at h;rcases J:cellsOf x.Y k st with _|l;simp[J]at h;simp[J]at h;obtain⟨i,lv,e,Q,q1,rfl,q2,q3,q4,q5,q6⟩:=ql7 c J W;have z:=zdt (Y:=x.Y) (k:=k) w;have H:I8 (HD x.Y k cs)=true:=by rw[ZC];exact F
  rcases d:sV l off (HD x.Y k cs)with _|l1;simp[d]at h;simp[d]at h;have⟨j,p1,o,p3⟩:=z4m d q4 z;have R:=p3 q5 H;have P:Ls T x.s t (.pointer<|some ⟨i,off,none⟩) O=some (undef,⟨up x.s.h i<|.inl (j,e,Q),x.s.nx⟩):=by
   have wQ:fC x.s i=some (lv,e,Q):=by unfold fC;obtain⟨rfl,_⟩|⟨sz,rfl,_⟩:=q6<;>simp[q2]
   simp only[Ls,N];rw[<-w.2,q];simp[zC,aj w F,wQ,p1]
  obtain⟨rfl,g⟩|⟨sz,rfl,hz,g⟩:=q6;simp[PY,g,zA,zB]at h;obtain⟨rfl,rfl⟩:=h;exact⟨undef,⟨x.I,⟨ug x.Y.h k<|.row l1 e,x.Y.nx⟩,⟨up x.s.h i<|.inl (j,e,0),x.s.nx⟩⟩,P,rfl,by simp[aF],Ux c g q1 q2 rfl aZ fun y K L hm=>⟨R,i,j,K,L,hm.ke.E o.K3 o⟩⟩;simp[PY,g,zA,zB]at h;obtain⟨rfl,rfl⟩:=h;exact⟨undef,⟨x.I,⟨ug x.Y.h k<|.vec l1 e sz st,x.Y.nx⟩,⟨up x.s.h i<|.inl (j,e,sz+2),x.s.nx⟩⟩,P,rfl,by simp[aF],Ux c g q1 q2 rfl (by rintro l e sz st h;cases h;exact⟨_,rfl⟩) fun y K L hm=>⟨R,hz,.inr ⟨i,j,K,L,hm.ke.E o.K3 o⟩⟩⟩
 |_=>simp at h
def qtg{n:Nat}{H:X (Nat×U)}{J:X (Nat×Value)}(h:Vn T x.Y t n H=some (r,Y'))(M:Bl x H J):∃v y,Vm T x.s t n J=some (v,y.s)/\y.Y=Y'/\aF y r v/\Out x y:=by
 unfold Vn at h;rcases g:T.I1 t with _|d;simp[g]at h;cases d with
 |slice e=>
  simp only[g]at h;rcases D:T.inf e with _|q;simp[D]at h;obtain⟨sz,L,z⟩:=q;simp only[D]at h;rcases j:ble (n*sz) 16777216 with _|_;simp[j]at h;simp only[j,zC]at h;rcases o:ble n 16777216 with _|_;simp[o]at h;simp only[o,zC]at h;rcases p:Nat.beq z.cells.toList.length sz with _|_;simp only[p,zD]at h;cases h;simp only[p,zC]at h;rcases w:rN z.cells.toList with _|zu;simp[w]at h;simp only[w]at h;have K:=(Bx _ _ w).2 x;rcases E:tC (fun i=>some (i*sz,sz)) (zE zu n) H with _|cs;simp[E]at h;simp only[E]at h;rcases F:I8 cs with _|_;simp[F]at h;simp only[F,zC,zA,zB]at h;obtain⟨rfl,rfl⟩:=h;obtain⟨N,f1,f2⟩:=Vg M (XG K n) E;have I:n<dC:=by have:=zY o;unfold dC;omega
  refine⟨.slice (some ⟨x.s.nx,0,none⟩) n n,_,?_,rfl,?_,av c f2 F e⟩;simp only[Vm,g,D,j,p,zC,f1,A3 I];simp only[aF];exact⟨rfl,Uq rfl ⟨x.s.nx,rfl,rfl,I,zF _⟩⟩
 |_=>simp[g]at h
def z84{a b:U}{G H:Value}(h:Rq T x.Y t a b=some (r,Y'))(w:aF x a G)(E:aF x b H):∃v y,Rp T x.s t G H=some (v,y.s)/\y.Y=Y'/\aF y r v/\Out x y:=by
 unfold Rq at h;rcases g:T.I1 t with _|d;simp[g]at h;cases d with
 |slice e=>
  cases a with
  |int R a=>
   cases b with
   |int S b=>
    simp only[aF]at w E;subst w;subst E;simp only[g]at h;rcases D:T.inf e with _|q;simp[D]at h;obtain⟨sz,K,z⟩:=q;simp only[D]at h;rcases o:rN z.cells.toList with _|zu;simp[o]at h;simp only[o]at h;have I:=(Bx _ _ o).2 x;rcases p:I8 zu with _|_;simp[p]at h;simp only[p,zC]at h;rcases j:Nat.beq z.cells.toList.length sz with _|_;simp only[j,zD]at h;cases h;simp only[j,zC]at h;split at h;rename_i M;simp only[zA,zB]at h;obtain⟨rfl,rfl⟩:=h;obtain⟨O,P,L,Q⟩:=M;have J:i64.wrap a=Int.ofNat a.toNat:=by rw[oX af af];simp;omega
    have N:i64.wrap b=Int.ofNat b.toNat:=by rw[oX af af];simp;omega
    have F:b.toNat<dC:=by unfold dC;omega
    refine⟨.slice (some ⟨x.s.nx,0,none⟩) a.toNat b.toNat,_,?_,rfl,?_,av c (XG (qwm I) b.toNat) (z9h (by rw[gg];exact p) _) e⟩;simp only[Rp,g,D,J,N,j,zC,A3 F,ve L,ve<|show a.toNat<=b.toNat by omega];simp[aF];exact⟨rfl,Uq rfl ⟨x.s.nx,rfl,rfl,F,by omega⟩⟩;cases h
   |_=>simp[g]at h
  |_=>simp[g]at h
 |_=>simp[g]at h
end
def qrq{n b:Nat}(c:n*b<=140737488355328)(d:n<=140737488355328):EA n b=true:=by simp[EA,ve c,ve d]
variable{e:TypeId}
def Z!{s:S}{i off n:Nat}{l:X Value}{d:Nat}(c:lk s.h i=some (.inl (l,e,d)))(h:off+n<=l.length):xW s (some ⟨i,off,none⟩) n=some ((l.drop off).take n):=by cases n with|zero=>simp[xW]|succ n=>simp[xW,c];exact gk h
section
variable{T:Tb}{x:Cx}(f:jV x)
include f
variable{sz:Nat}{k:Nat}{new:X U}
def zde(M:0<sz){u:U}{v:Value}(h:xP x.Y sz u=some (k,new))(hr:aF x u v):∃b c vs,CY v=.slice b k c/\(v=.slice b k c\/k=0/\b=none/\c=0/\new=[]/\∃r,v=.chan (some r))/\xW x.s b (k*sz)=some vs/\bD x new vs/\I8 new=true:=by
 unfold xP at h;cases u with
 |J=>simp[zA,zB]at h;obtain⟨rfl,rfl⟩:=h;simp[aF]at hr;subst hr;exact⟨none,0,[],rfl,.inl rfl,by rw[my];rfl,bD.nil x,rfl⟩
 |O t l=>simp only at h;split at h;rename_i K;simp[zA,zB]at h;obtain⟨rfl,rfl⟩:=h;simp only[aF]at hr;obtain⟨rfl,rfl |⟨r,rfl⟩⟩|⟨i,off,c,rfl,_,g⟩:=hr;exact⟨none,0,[],rfl,.inl rfl,by rw[zS,my];rfl,bD.nil x,rfl⟩;exact⟨none,0,[],rfl,.inr ⟨rfl,rfl,rfl,rfl,r,rfl⟩,by rw[zS,my];rfl,bD.nil x,rfl⟩;by_cases w:l=[];subst w;exact⟨_,c,[],rfl,.inl rfl,by rw[zS,my];rfl,bD.nil x,rfl⟩;obtain g |⟨row,e,j,g1,g2,g3⟩:=g;exact absurd g w;have:=z57 g2 w K;subst this;obtain⟨f1,f2⟩:=qu9 g2;have J:=ti g2;rw[yc]at J;have:0<l.length*j:=Hx (by cases l<;>simp_all) M;exact⟨_,c,_,rfl,.inl rfl,Z! g1 af,f1,f2⟩;cases h
 |sl p off n c=>simp only at h;rcases g:rowOf x.Y p with _|l;simp[g]at h;simp[g]at h;rcases d:mD l off (n*sz)with _|cs;simp[d]at h;simp[d,zA,zB]at h;obtain⟨rfl,rfl⟩:=h;have⟨e,y,o⟩:=qpq g;obtain⟨i,D,rfl,_⟩:=Mn o hr;have⟨_,R,i',lv,E,L,F⟩:=f.ok p _ y;rw[D]at E;cases E;have⟨S,A⟩:=z5h d F;obtain⟨q1,rfl⟩:=VA d;exact⟨_,c,_,rfl,.inl rfl,Z! L (by rw[<-F.2];exact q1),qwm A,by rw[gg];exact V6 (HU R _) _⟩
 |vl p st off n=>simp only at h;rcases z:pR x.Y p st with _|q;simp[z]at h;have⟨l,e,j⟩:=q;have⟨y,o⟩:=SJ z;simp[z,beq_eq]at h;by_cases I:j=sz;subst I;simp[yC,zC]at h;rcases d:mD l (off*j) (n*j)with _|cs;simp[d]at h;simp[d,zA,zB]at h;obtain⟨rfl,rfl⟩:=h;obtain⟨q1,rfl⟩:=VA d;by_cases Q:n=0;subst Q;have⟨_,_,_,_,W⟩:=Mm o hr;obtain⟨b,c,rfl⟩:=zbe W;exact⟨b,c,[],rfl,.inl rfl,by rw[my];rfl,by simpa using bD.nil x,by simp[I8]⟩;obtain⟨i,l0,e0,Z,l',N,h2,rfl,O,H,h6,P⟩:=qs3 f o hr af;have:=y.symm.trans N;cases this;have⟨S,A⟩:=z5h d H;exact⟨_,_,_,rfl,.inl rfl,Z! O (by rw[<-H.2];exact q1),A,V6 (HU P _) _⟩;simp[I]at h
 |_=>simp at h
omit f in
def qpp{l:X U}{e:TypeId}{sz N:Nat}{c:nT}:aF ⟨nI x.I x.Y.nx (some x.s.nx),bE x.Y (.vec l e sz 0),⟨(x.s.nx,c)::x.s.h,x.s.nx+1⟩⟩ (.vl x.Y.nx 0 0 N) (.slice (some ⟨x.s.nx,0,none⟩) N dC):=by simp only[aF];refine⟨rfl,by simp[bE],fun b d=>?_⟩;simp only[bE,aR,It,zA]at d;subst d;exact⟨zF _,fun _=>⟨l,e,sz,rfl,by simp[nI,N7]⟩⟩
omit f in
def qil{e:TypeId}{sz:Nat}{o:V Addr}(d:∀a,o=some a->a.spot=none):aF ⟨nI x.I x.Y.nx none,bE x.Y (.vec [] e sz 0),x.s⟩ (.vl x.Y.nx 0 0 0) (.slice o 0 0):=by simp only[aF];refine⟨rfl,by simp[bE],fun b c=>?_⟩;simp only[bE,aR,It,zA]at c;subst c;exact⟨zF _,fun _=>⟨[],e,sz,rfl,by simpa[nI,N7]using d⟩⟩
variable{t:TypeId}{g:TypeId}
def pK{F:TypeId}{d:Nat}{z:Value}(w:T.I1 t=some (.slice e))(q:T.I1 g=some (.slice F))(D:T.inf e=some (sz+1,d,z))(J:Nat.beq z.cells.toList.length (sz+1)=true)
  {o:V Addr} (H:∀a,o=some a->a.spot=none) {b:V Addr} {c:Nat} {vs:X Value} (j:xW x.s b (k*(sz+1))=some vs) (K:bD x new vs) (A:I8 new=true) (E:new.length=k*(sz+1)) (p:k*d<=140737488355328/\k<=140737488355328):
  ∃v y,A5 T x.s t g (.slice o 0 0) (.slice b k c)=some (v,y.s)/\y.Y=bE x.Y (.vec new e (sz+1) 0)/\aF y (.vl x.Y.nx 0 0 k) v/\Out x y/\(0<k->∃b n c,v=.slice (some b) n c):=by cases k with|zero=>have:new=[]:=Zs (by rw[E];simp);subst this;rw[K.K4]at j;refine⟨.slice o 0 0,⟨nI x.I x.Y.nx none,bE x.Y<|.vec [] e (sz+1) 0,x.s⟩,?_,rfl,qil H,qo8 f e (sz+1) af,fun h=>af⟩;simp only[A5,EK,CY,zD,BY,w,q,D,j,xY,zC,MI];rfl|succ k=>refine⟨.slice (some ⟨x.s.nx,0,none⟩) (k+1) dC,_,?_,rfl,qpp,qpe f K A e af,fun _=>⟨_,_,_,rfl⟩⟩;simp only[A5,EK,CY,zD,BY,w,q,D,j,aj K A,zC,Lp,MI,J,Ty,qrq p.1 p.2,Rx.newRow]
def dt{w:TypeId}{d:Nat}{z:Value}(J:T.I1 t=some (.slice e))(q:T.I1 g=some (.slice w))(D:T.inf e=some (sz+1,d,z))(M:Nat.beq z.cells.toList.length (sz+1)=true)
  {o:V Addr} (L:∀a,o=some a->a.spot=none) {b:V Addr} {c:Nat} {vs:X Value} (I:xW x.s b (k*(sz+1))=some vs) (N:bD x new vs) (K:I8 new=true) (j:new.length=k*(sz+1)) (p:k*d<=140737488355328/\k<=140737488355328):
  ∃v y,A5 T x.s t g (.slice o 0 0) (.slice b k c)=some (v,y.s)/\y.Y=bE x.Y (.vec new e (sz+1) 0)/\aF y (.vl x.Y.nx 0 0 k) v/\Out x y:=by obtain⟨v,y,A,E,F,H,_⟩:=pK f J q D M L I N K j p;exact⟨v,y,A,E,F,H⟩
def Uw{K:Nat}{l l1:X U}{st:Nat}(c:gt x.Y.h K=some (.vec l e sz st))(o:V Nat)(d:S)(z:∀i b,lk x.s.h i=some b->x.I K≠some i->lk d.h i=some b)(M:∀i,o=some i->x.I K=some i\/x.s.nx<=i)
  (L:∀i b,lk d.h i=some b->i<d.nx) (j:I8 l1=true) (H:∀y:Cx,y.s=d->Mo x.Y.nx x y->l1=[]/\o=none\/∃i p,o=some i/\lk d.h i=some (.inl (p,e,sz+2))/\bD y l1 p):
  Out x ⟨nI x.I K o,⟨ug x.Y.h K<|.vec l1 e sz<|st+1,x.Y.nx⟩,d⟩:=by have E:0<sz:=(f.ok K _ c).2.2.1;refine jb f K (.vec l1 e sz<|st+1) (zF _) (f.ok K _ c).1 (fun k j=>⟨by simp[bV,WV j],V! _ _ j⟩) (by simp[bV,c]) (.inl ⟨_,c,MD _,fun h=>by simp[B.st]at h⟩) (fun i b J A=>z i b J<|A _ c) (fun i D=>?_) L (fun hm=>⟨j,E,?_⟩);change nI _ _ _ _=some i at D;rw[qo4]at D;obtain h |h:=M i D;exact .inl ⟨_,c,h⟩;exact .inr h;obtain⟨q,w⟩|⟨i,p,q,w,F⟩:=H _ rfl hm;exact .inl ⟨q,by simp[nI,w]⟩;exact .inr ⟨i,p,by simp[nI,q],w,F⟩
omit f in
def Uo{K:Nat}{l j:X U}{e:TypeId}{sz st N:Nat}(f:jV x)(d:gt x.Y.h K=some (.vec l e sz st)){o:V Nat}{q:S}{v:Value}(p:v.oneCell'=true)(h:N7 0 N v sz o):
  aF ⟨nI x.I K o,⟨ug x.Y.h K (.vec j e sz (st+1)),x.Y.nx⟩,q⟩ (.vl K (st+1) 0 N) v:=by simp[aF];refine⟨p,(f.ok K _ d).1,fun b c=>?_⟩;simp[bV,It,d,zM,zA]at c;subst c;exact⟨zF _,fun _=>⟨j,e,sz,rfl,by simpa[nI]using h⟩⟩
omit f in
def zdd{sz:Nat}{u:U}{k:Nat}{new:X U}(h:xP x.Y sz u=some (k,new)):new.length=k*sz:=by
 unfold xP at h;cases u with
 |J=>simp[zA,zB]at h;obtain⟨rfl,rfl⟩:=h;simp
 |O t l=>
  simp only at h;split at h;rename_i p;simp[zA,zB]at h;obtain⟨rfl,rfl⟩:=h;have:=z9p p;clear p;induction l with
  |nil=>simp|cons c l H=>have z:=this c aZ;have A:=H fun d E=>this d (by simp[E]);simp[YP,zU,zO,eM,A,z];omega
  cases h
 |sl o off n c=>simp only at h;rcases s:rowOf x.Y o with _|l;simp[s]at h;simp[s]at h;rcases j:mD l off (n*sz)with _|cs;simp[j]at h;simp[j,zA,zB]at h;obtain⟨rfl,rfl⟩:=h;obtain⟨q1,rfl⟩:=VA j;rw[qwl];simp;omega
 |vl o st off n=>simp only at h;rcases w:pR x.Y o st with _|q;simp[w]at h;have⟨l,e,F⟩:=q;simp[w,beq_eq]at h;by_cases y:F=sz;simp[y,yC,zC]at h;rcases j:mD l (off*sz) (n*sz)with _|cs;simp[j]at h;simp[j,zA,zB]at h;obtain⟨rfl,rfl⟩:=h;obtain⟨q1,rfl⟩:=VA j;simp;omega;simp[y]at h
 |_=>simp at h
def qzf{a b r:U}{G vb:Value}{Y':Sg}(h:EF T x.Y t g a b=some (r,Y'))(S:aF x a G)(w:aF x b vb):∃v y,A5 T x.s t g G vb=some (v,y.s)/\y.Y=Y'/\aF y r v/\Out x y:=by
 unfold EF at h;rcases F:T.I1 t with _|d;simp[F]at h;cases d with
 |slice e=>
  rcases J:T.I1 g with _|d2;simp[F,J]at h;cases d2 with
  |slice e2=>
   simp only[F,J]at h;rcases D:T.inf e with _|q;simp[D]at h;obtain⟨sz,by_,z⟩:=q;cases sz with
   |zero=>simp[D]at h|succ sz=>
    simp only[D]at h;rcases P:Nat.beq z.cells.toList.length (sz+1)with _|_;simp only[P,zD]at h;cases h;simp only[P,zC]at h;rcases H:xP x.Y (sz+1) b with _|q;simp[H]at h;obtain⟨k,new⟩:=q;simp only[H]at h;have Q:=zdd H;obtain⟨bb,c,vs,DT,_,L,hr,O⟩:=zde f af H w;have happ:∀R,A5 T x.s t g R vb=A5 T x.s t g R (.slice bb k c):=fun R=>by unfold A5;rw[DT];simp only[CY,EK,zD]
    rw[happ];cases a with
    |J=>simp only at h;split at h;rename_i M;simp only[zA,zB]at h;obtain⟨rfl,rfl⟩:=h;simp only[aF]at S;subst S;exact dt f F J D P aZ L hr O Q M;cases h
    |O tt l=>
     obtain _|_:=tt;simp at h;cases l with
     |cons _ _=>simp at h|nil=>
      simp only at h;split at h;rename_i M;simp only[zA,zB]at h;obtain⟨rfl,rfl⟩:=h;simp only[aF]at S;obtain⟨_,rfl |⟨rr,rfl⟩⟩|⟨i,off,c1,rfl,h2,_⟩:=S;exact dt f F J D P aZ L hr O Q M.2;obtain⟨v,y,h1,h2,h3,h4,h5⟩:=pK (T:=T) f F J D P (o:=none) aZ L hr O Q M.2;obtain⟨b1,n1,c1,rfl⟩:=h5 M.1;have h0:BY T x.s t g (.slice none 0 0) (.slice bb k c)=some (.slice (some b1) n1 c1,y.s):=by simpa only[A5,EK,CY,zD]using h1
      exact⟨_,y,by simp only[A5,EK,CY,zC,zD,h0],h2,h3,h4⟩;obtain⟨rfl,_⟩:=h2 trivial;exact dt f F J D P aZ L hr O Q M.2;cases h
    |sl k' off n cp=>
     cases n with|succ n=>simp at h|zero=>
     cases cp with|succ cp=>simp at h|zero=>
     simp only at h;rcases eL:rowOf x.Y k' with _|l;simp[eL]at h;simp only[eL]at h;obtain⟨N,A,hl⟩:=qpq eL;obtain⟨i,iX,hva,SL,_⟩:=Mn hl S;split at h;rename_i M;simp only[zA,zB]at h;obtain⟨rfl,rfl⟩:=h;subst hva;exact dt f F J D P aZ L hr O Q M;cases h
    |vl K st off n=>
     simp only at h;rcases A:gt x.Y.h K with _|b0;simp[A]at h;cases b0 with
     |vec l N iB Z=>
      simp only[A,beq_eq]at h;by_cases dJ:Z=st;by_cases he:N=e;by_cases fN:iB=sz+1;subst dJ;subst he;subst fN;simp only[yC,zC]at h;rcases hs:mD l (off*(sz+1)) (n*(sz+1))with _|p;simp[hs]at h;simp only[hs]at h;split at h;rename_i M;obtain⟨r1,r2,r3⟩:=M;simp only[zA,zB]at h;obtain⟨rfl,rfl⟩:=h;obtain⟨l0,e0,Tv,uK,v8⟩:=Mm (x:=x) (by simp[live,A,B.st]) S;have:=A.symm.trans uK;cases this;obtain⟨_,k1,k2,h3⟩:=f.ok K _ A;obtain⟨q1,rfl⟩:=VA hs;obtain⟨rfl,kJ⟩|⟨i,W,e1,e2,e3⟩:=h3;rw[kJ]at v8;obtain⟨rfl,rfl,o,rfl,ho⟩:=v8;cases k with
      |zero=>have:new=[]:=Zs (by rw[Q];simp);subst this;rw[hr.K4]at L;refine⟨.slice o 0 0,⟨nI x.I K none,⟨ug x.Y.h K<|.vec [] N (sz+1)<|Z+1,x.Y.nx⟩,x.s⟩,?_,by simp,Uo f A rfl ⟨rfl,rfl,o,rfl,ho⟩,Uw f A none x.s (fun i b w _=>w) aZ f.bd rfl (fun y _ _=>.inl ⟨rfl,rfl⟩)⟩;simp only[A5,EK,CY,zD,BY,F,J,D,L,xY,zC,MI];rfl|succ k=>refine⟨.slice (some ⟨x.s.nx,0,none⟩) (0+(k+1)) dC,⟨nI x.I K<|some x.s.nx,⟨ug x.Y.h K<|.vec new N (sz+1)<|Z+1,x.Y.nx⟩,Rx.newRow x.s vs N<|sz+1+2⟩,?_,by simp,Uo f A rfl (.inr aZ),Uw f A (some x.s.nx) _ (fun i b w _=>?_) (fun i D=>.inr (by cases D;exact zF _)) (fun i b w=>?_) O fun y hy hm=>.inr ⟨x.s.nx,vs,rfl,?_,hm.ke.E hr.K3 hr⟩⟩;simp only[A5,EK,CY,zD,BY,F,J,D,L,aj hr O,zC,Lp,MI,P,qrq r1 r2];have:=f.bd i b w;simp[Rx.newRow,nU,show x.s.nx≠i by omega,w];simp only[Rx.newRow,nU]at w ⊢;split at w;omega;exact Ze<|f.bd i b w;simp[Rx.newRow,nU]
      rw[e1]at v8;obtain⟨h0,rfl,_⟩|rfl:=v8;omega;have wQ:fC x.s i=some (W,N,sz+1+2):=by simp[fC,e2]
      have hcc:blt (dC+off) dC=false:=V3 af;have OT:dA (dC+off)=off:=by simp[dA]
      have wb:xM W (off*(sz+1)) (n*(sz+1))=some ((W.drop<|off*(sz+1)).take (n*(sz+1))):=gk (by rw[<-e3.2];exact q1);have g9:Nat.beq (off*(sz+1)) (off*(sz+1))=true:=by simp
      cases k with
      |zero=>
       have:new=[]:=Zs (by rw[Q];simp);subst this;rw[hr.K4]at L;have h0:off=0/\n*(sz+1)=l.length:=by omega
       obtain⟨rfl,xz⟩:=h0;have hp:(l.drop<|0*(sz+1)).take (n*(sz+1))++[]=l:=by simp[xz]
       rw[hp];refine⟨.slice (some ⟨i,0*(sz+1),none⟩) n<|dC+0,⟨nI x.I K<|some i,⟨ug x.Y.h K<|.vec l N (sz+1)<|Z+1,x.Y.nx⟩,x.s⟩,?_,by simp,Uo f A rfl (.inr rfl),Uw f A (some i) x.s (fun i b w _=>w) (fun j hj=>.inl (by cases hj;exact e1)) f.bd k1 fun y _ hm=>.inr ⟨i,W,rfl,e2,hm.ke.E e3.K3 e3⟩⟩;simp only[A5,EK,CY,zD,BY,F,J,D,L,xY,zC,hcc,zD,wQ,beq_refl,OT,wb]
      |succ k=>have nN:bD x ((l.drop<|off*(sz+1)).take (n*(sz+1))++new) ((W.drop<|off*(sz+1)).take (n*(sz+1))++vs):=((e3.drop _).take _).append hr;have hpk:=VE (V6 (HU k1<|off*(sz+1))<|n*(sz+1)) O;refine⟨.slice (some ⟨x.s.nx,0,none⟩) (n+(k+1)) dC,⟨nI x.I K<|some x.s.nx,⟨ug x.Y.h K<|.vec ((l.drop<|off*(sz+1)).take (n*(sz+1))++new) N (sz+1)<|Z+1,x.Y.nx⟩,⟨(x.s.nx,.inl ((W.drop<|off*(sz+1)).take (n*(sz+1))++vs,N,sz+1+2))::rm x.s.h i,x.s.nx+1⟩⟩,?_,rfl,Uo f A rfl (.inr aZ),Uw f A (some x.s.nx) _ (fun j b w cB=>?_) (fun i D=>.inr (by cases D;exact zF _)) (fun j b w=>?_) hpk fun y hy hm=>.inr ⟨x.s.nx,_,rfl,?_,hm.ke.E nN.K3 nN⟩⟩;simp only[A5,EK,CY,zD,BY,F,J,D,L,aj hr O,zC,Lp,hcc,zD,wQ,beq_refl,OT,wb,P,qrq r1 r2];have:=f.bd j b w;have pF:i≠j:=fun h=>cB (by rw[e1,h]);simp[nU,Lo,show x.s.nx≠j by omega,pF,w];simp only[nU,Lo]at w ⊢;split at w;omega;split at w;cases w;exact Ze<|f.bd j b w;simp[nU]
      cases h;simp[dJ,he,fN]at h;simp[dJ,he]at h;simp[dJ]at h
     |_=>simp[A]at h
    |_=>simp at h
  |_=>simp[F,J]at h
 |_=>simp[F]at h
end
variable{es:X ME}
def yW.snoc{x:Cx}{vs:X MapEntry}(h:yW x es vs){k v:U}{f g:Value}(p:aF x k f)(q:aF x v g)(b:Nat):yW x (es++[⟨k,v,b⟩]) (vs++[⟨f,g,b⟩]):=by
 refine⟨by simp[h.1],fun i e c=>?_⟩;rw[Ki]at c ⊢;rw[<-h.1];split at c;rename_i d;simp[d,It];exact h.2 i e c;rename_i d;simp[d,MF];cases o:i-es.length with
 |zero=>simp[o]at c;subst c;exact⟨⟨f,g,b⟩,by simp,p,q,rfl⟩|succ j=>simp[o]at c
def yW.mono{x y:Cx}(hm:Mo x.Y.nx x y){vs:X MapEntry}(h:yW x es vs):yW y es vs:=⟨h.1,fun j e c=>by
  have⟨v,q1,q2,q3,q4⟩:=h.2 j e c;exact⟨v,q1,hm.ke _ _ (aF.K3 _ _ q2) q2,hm.ke _ _ (aF.K3 _ _ q3) q3,q4⟩⟩
section
variable{T:Tb}{x:Cx}(d:jV x)
include d
def zal{m:U}{mv:Value}{r:Nat}{f:Nat}(hm:aF x (.map r) mv)(o:gt x.Y.h r=some (.map es f)):∃i c,x.I r=some i/\mv=.map (some i)/\lk x.s.h i=some (.inr (c,f))/\yW x es c/\Lv x.s i=some (c,f):=by obtain⟨i,D,rfl⟩:=qxr (x:=x) (by simp[live,o,B.st]) hm;have⟨_,q,c,g,j,p⟩:=d.ok r _ o;rw[D]at g;cases g;exact⟨i,c,D,rfl,j,p,by simp[Lv,j]⟩
def zce{r i:Nat}{c:X ME}{g f:X MapEntry}{j cl1:Nat}(q:gt x.Y.h r=some (.map es j))(D:x.I r=some i)(w:lk x.s.h i=some (.inr (g,j)))(z:yW x c f):
  Out x ⟨x.I,z38 x.Y r c cl1,z37 x.s i f cl1⟩:=
 Ux d q D w rfl aZ fun y o p hm=>⟨i,f,o,p,z.mono hm⟩
variable{Y':Sg}
def qur{t f:TypeId}{a b r:U}{G c:Value}(h:J' T x.Y t f a b=some (r,Y'))(w:aF x a G)(z:aF x b c):∃v y,Uv T x.s t f G c=some (v,y.s)/\y.Y=Y'/\aF y r v/\Out x y:=by unfold J' at h;split at h;rename_i q A;cases h;obtain⟨v,y,g,j,o,p⟩:=qzf d A w z;exact⟨v,y,by simp only[Uv,g],j,o,p⟩;cases h
def zc0{E:X U}{A:X Value}(L:bD x E A){op:Op}{u:U}(h:sW T x.Y E op=some (u,Y')):tZ T x A op u Y':=by
 have f:∀{v:Value}{y:Cx},kP T A op=none->xS T A x.s op=none->CQ T A x.s op=some (v,y.s)->y.Y=Y'->aF y u v->Out x y->tZ T x A op u Y':=fun{v y} g j I J P Q=>⟨v,y,qy4 g j I,J,P,Q⟩;unfold sW at h;cases op with
 |alloc e=>simp only at h;rcases D:T.inf e with _|q;simp[D]at h;obtain⟨a,b,z⟩:=q;simp only[D]at h;rcases hz:rN z.cells.toList with _|zu;simp[hz]at h;simp only[hz]at h;rcases S:I8 zu with _|_;simp[S]at h;simp only[S,zC,zA,zB]at h;obtain⟨rfl,rfl⟩:=h;exact f (v:=.pointer<|some ⟨x.s.nx,0,none⟩) rfl rfl (by simp only[CQ,D]) rfl (by simp only[aF];exact⟨rfl,Uq rfl ⟨_,rfl,rfl⟩⟩) (av d ((Bx _ _ hz).2 x) S e)
 |box e o=>simp only at h;rcases W:cX E o with _|a;simp[W]at h;simp only[W]at h;obtain⟨G,F,H⟩:=kG L W;rcases R:xX a with _|cs;simp[R]at h;simp only[R]at h;obtain⟨c1,c2⟩:=TT H R;simp only[c2,zC,zA,zB]at h;obtain⟨rfl,rfl⟩:=h;exact f (v:=.pointer<|some ⟨x.s.nx,0,none⟩) rfl rfl (by simp only[CQ,F]) rfl (by simp only[aF];exact⟨rfl,Uq rfl ⟨_,rfl,rfl⟩⟩) (av d c1 c2 e)
 |store t a b=>simp only at h;rcases p:cX E a with _|au;simp[p]at h;rcases K:cX E b with _|bu;simp[p,K]at h;simp only[p,K]at h;obtain⟨G,F,H⟩:=kG L p;obtain⟨M,N,O⟩:=kG L K;obtain⟨v,y,g,j,I,J⟩:=z5v d h H O;exact f rfl rfl (by simp only[CQ,F,N,g]) j I J
 |buildSlice t n ps=>simp only at h;rcases Z:BW E ps.toList with _|qs;simp[Z]at h;simp only[Z]at h;obtain⟨vs,g,j⟩:=Ru L Z;have⟨v,y,I,J,P,Q⟩:=qtg d h j;exact f rfl rfl (by simp[CQ,g,I]) J P Q
 |makeSlice t a b=>simp only at h;rcases p:cX E a with _|au;simp[p]at h;rcases K:cX E b with _|bu;simp[p,K]at h;simp only[p,K]at h;obtain⟨G,F,H⟩:=kG L p;obtain⟨M,N,O⟩:=kG L K;have⟨v,y,g,j,I,J⟩:=z84 d h H O;exact f rfl rfl (by simp[CQ,F,N,g]) j I J
 |makeMap t r=>
  cases r with
  |none=>simp[zA,zB]at h;obtain⟨rfl,rfl⟩:=h;exact f (v:=.map<|some x.s.nx) rfl rfl (by simp[CQ]) rfl (by simp only[aF];exact⟨rfl,Uq rfl ⟨_,rfl,rfl⟩⟩) (qrx d (.map [] 0) (.inr ([],0)) fun y g j hm=>⟨_,[],g,j,rfl,by simp⟩)
  |some r=>simp at h
 |call c=>
  simp only at h;have⟨callee,args,ats⟩:=c;cases callee with
  |builtin b=>
   have two:∀{us:X U}{a b:U},pT E args.toList=some us->us=[a,b]->∃G M,qI A args.toList=some [G,M]/\aF x a G/\aF x b M:=fun{us a b} g j=>by subst j;obtain⟨vs,F,H⟩:=Cn L g;obtain⟨G,uR,rfl,r1,r2⟩:=H.inv;obtain⟨M,vs'',rfl,r3,r4⟩:=r2.inv;rw[r4.K4]at F;exact⟨G,M,F,r1,r3⟩
   cases b with
   |append=>simp only at h;split at h;rename_i a b t xt g j;obtain⟨G,M,e1,r1,r2⟩:=two g rfl;have⟨w,y,q1,q2,q3,q4⟩:=qur d h r1 r2;exact f (by simp[kP]) (by simp[xS]) (by simp[CQ,e1,j,q1]) q2 q3 q4;cases h
   |_=>simp at h
  |_=>simp at h
 |_=>simp at h
def Ej{c:X U}{A:X Value}(j:bD x c A){op:Op}{u:U}(h:bJ T x.Y c op=some (u,Y')):tZ T x A op u Y':=by
 unfold bJ at h;cases f:iV T x.Y c op with
 |some v=>simp[f,zA,zB]at h;obtain⟨rfl,rfl⟩:=h;exact z8n d j f
 |none=>simp[f]at h;rcases g:tB T x.Y c op with _|v;simp[g]at h;exact zc0 d j h;simp[g,zA,zB]at h;obtain⟨rfl,rfl⟩:=h;exact qyp d j g
omit d in
def z79{s:X U}{A:X Value}(F:bD x s A){op:Op}{f:FuncId}{args:X U}(h:kQ T s op=some (f,args)):∃vs,di T A op=some (f,vs)/\bD x args vs:=by
 unfold kQ at h;cases op with
 |call c=>
  simp only at h;obtain⟨callee,I,J⟩:=c;cases callee with
  |value o=>
   simp only at h;rcases j:cX s o with _|a;simp[j]at h;obtain⟨G,H,E⟩:=kG F j;cases a with
   |fn fn first cap=>
    cases fn with
    |func g=>simp only[j]at h;simp only[aF]at E;obtain⟨p,q,rfl,M,N,O,P⟩:=E;rcases w:T.fn g with _|fd;simp[w]at h;simp only[w]at h;rcases z:fd.body.isSome with _|_;simp[z]at h;simp only[z,zC]at h;rcases y:pT s I.toList with _|us;simp[y]at h;simp only[y,zA,zB]at h;obtain⟨rfl,rfl⟩:=h;obtain⟨vs,K,L⟩:=Cn F y;exact⟨p++vs++q,by simp only[di,H,w,z,zC,K],((show bD x first p from⟨M,N⟩).append L).append ⟨O,P⟩⟩
    |_=>simp[j]at h
   |_=>simp[j]at h
  |_=>simp at h
 |_=>simp at h
end
end Go.Vx
