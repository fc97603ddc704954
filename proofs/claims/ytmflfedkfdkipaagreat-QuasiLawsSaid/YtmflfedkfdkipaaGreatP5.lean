import Derived.IntWalk
import Derived.Test.YtmflfedkfdkipaaGreatP4
set_option linter.all false
namespace Go.Rx
open Go
def WP(P:Uz)(c:Code)(tm:Z A)(s:S)(Q:Exit->Z A->S->Prop):Prop :=
 ∀m w a,fN m s w->y8 m s.nx tm a->a.defers=[]->
  c.wp P (fun e a' w'=>∃m' tm' s',Q e tm' s'/\bQ m s w m' s' w'/\y8 m' s'.nx tm' a'/\a'.defers=[]) a w
def Less(s s':S):Prop:=s.nx<=s'.nx/\∀i b,lk s'.h i=some b->lk s.h i=some b
def bQ.less{m:Nm}{s s':S}{w:Tz}(h:fN m s w)(hl:Less s s'):bQ m s w m s' w:=by refine⟨aJ.refl _ _,hl.1,fun m' ha=>?_,?_,fun _ _ _=>rfl,zF _,rfl,rfl,rfl⟩;have hf:=h m' (ha.mono hl.1);exact⟨fun i b hb=>hf.ok i b (hl.2 i b hb),fun i j b c hb hc=>hf.inj i j b c (hl.2 i b hb) (hl.2 j c hc),fun i b hb=>Nat.lt_of_lt_of_le (hf.bd i b (hl.2 i b hb)) hl.1⟩;rintro k ⟨j,d,hd,ho,rfl⟩;exact .inl ⟨j,d,hl.2 j d hd,ho,rfl⟩
def oA{x:Int}(h1 : -9223372036854775808<=x)(h2:x<=9223372036854775807):IntKind.i64.wrap x=x:=IntWalk.i64_in x ⟨h1,h2⟩
section
variable{P:Uz}{Q:Exit->Z A->S->Prop}{tm:Z A}{s:S}
def WP.exit{id:Nat}(h:Q (.exit id) tm s):WP P (.exit id) tm s Q:=fun m _ _ hf ha hd=>wp_exit ⟨m,tm,s,h,bQ.refl hf,ha,hd⟩
def qtt(id:Nat)(Q:Exit->Z A->S->Prop):Exit->Z A->S->Prop
 |.exit id',tm,s=>if id'=id then Q .normal tm s else Q (.exit id') tm s|e,tm,s=>Q e tm s
def WP.block{id:Nat}{c:Code}(h:WP P c tm s (qtt id Q)):WP P (.block id c) tm s Q:=fun m w a hf ha hd=>by
 refine wp_block (wp_mono (h m w a hf ha hd) ?_);rintro e a' w' ⟨m',tm',s',h1,h2,h3,h4⟩;cases e with
 |exit id'=>simp only[Exit.inBlock];simp only[qtt]at h1;by_cases lH:id'=id;simp only[lH,if_true]at h1 ⊢;exact⟨m',tm',s',h1,h2,h3,h4⟩;simp only[lH,if_false]at h1 ⊢;exact⟨m',tm',s',h1,h2,h3,h4⟩|_=>exact⟨m',tm',s',h1,h2,h3,h4⟩
variable{T:Tb}(hT:iK P T){call:E4}(hC:Er P call)
include hT hC
end
def p0(tm:Z A)(op:Op):I A :=
 match op with
 |.move x=>evalO tm x|.assign x=>evalO tm x
 |.pick c a b=>match evalO tm c with
  |some (.bool true)=>evalO tm a|some (.bool false)=>evalO tm b
  |_=>none
 |.nilCheck x=>match evalO tm x with
  |some (.pointer (some a))=>some (.pointer (some a))|_=>none
 |.binOp op _ x y _=>match evalO tm x,evalO tm y with
  |some (.int k a),some (.int k' b)=>jF op k a k' b|_,_=>none
 |.unOp op _ x=>match evalO tm x with
  |some a=>P0 op a|none=>none
 |.makeFunc fn first cap=>match jP tm first.toList,jP tm cap.toList with
  |some a,some b=>some (.func fn a.toArray b.toArray)|_,_=>none
 |.extract x i=>match evalO tm x with
  |some a=>Fo a i|none=>none
 |.call c=>match c.callee with
  |.builtin .max=>match jP tm c.args.toList with
   |some (x::l)=>wV W8 x l|_=>none
  |.builtin .min=>match jP tm c.args.toList with
   |some (x::l)=>wV PU x l|_=>none
  |_=>none
 |_=>none
section
variable{T:Tb}{call:E4}{aA rest:Z Oper}{o:Oper}{tm:Z A}{s:S}{K:Z A->S->Prop}
end
section
variable{P:Uz}{Q:Exit->Z A->S->Prop}{tm:Z A}{s:S}{T:Tb}(hT:iK P T){call:E4}(hC:Er P call)
include hT hC
end
end Go.Rx
namespace Go.Vx
open Go Go.Rx
inductive U where
 |junk
 |bool (b:Bool)
 |int (k:IntKind) (n:Int)
 |str (s:List UInt8)
 |nilp
 |ptr (k st off:Nat)
 |iptr (l:List U)
 |nils
 |sl (k off n c:Nat)
 |vl (k st off n:Nat)
 |isl (t:Bool) (l:List (List U))
 |nilm
 |map (k:Nat)
 |fn (f:Fn) (first cap:List U)
 |nilf
 |nili
 |agg (l:List U)
 |tup (l:List U)
 deriving Inhabited
def okC:U->BQ
 |.junk=>false|.agg _=>false
 |.tup _=>false|_=>true
def okL:Z U->BQ
 |[]=>true|u::l=>cond (okC u) (okL l) false
def JQ(l:Z U):okL l=true↔∀u∈l,okC u=true:=by induction l with|nil=>simp[okL]|cons u l ih=>cases h:okC u<;>simp[okL,h,ih]
structure ME where
 key:U
 val:U
 born:Nat
inductive B where
 |row (l:List U) (e:TypeId)
 |vec (l:List U) (e:TypeId) (sz st:Nat)
 |map (es:List ME) (cl:Nat)
structure Sg where
 h:Z (Nat×B)
 nx:Nat
def gt:Z (Nat×B)->Nat->I B
 |[],_=>none|(j,b)::h,i=>cond (Nat.beq j i) (some b) (gt h i)
def ug:Z (Nat×B)->Nat->B->Z (Nat×B)
 |[],_,_=>[]|(j,b)::h,i,c=>cond (Nat.beq j i) ((j,c)::h) ((j,b)::ug h i c)
def aQ(j:Nat)(b:B)(h:Z (Nat×B))(i:Nat):gt ((j,b)::h) i=if j=i then some b else gt h i:=by simp only[gt,beq_eq];by_cases e:j=i<;>simp[e]
def c7(h:Z (Nat×B))(i:Nat)(c:B)(j:Nat):gt (ug h i c) j=if i=j then(gt h i).map (fun _=>c)else gt h j:=by induction h with|nil=>simp[ug,gt]|cons x h ih=>obtain⟨k,b⟩:=x;simp only[ug,beq_eq];by_cases e:k=i;subst e;simp only[yC,zC,aQ];by_cases e2:k=j<;>simp[e2];simp only[e,yB,zD,aQ,ih];by_cases e2:i=j;subst e2;simp[e];by_cases e3:k=j<;>simp[e2,e3]
def B.st:B->Nat
 |.vec _ _ _ st=>st|_=>0
structure Cx where
 Y:Nat->I Nat
 X:Sg
 s:S
def Ref(x:Cx)(k st:Nat)(p:I Nat->Prop):Prop:=k<x.X.nx/\∀b,gt x.X.h k=some b->st<=b.st/\(st=b.st->p (x.Y k))
def FL(off n:Nat)(v:A)(sz:Nat):I Nat->Prop
 |none=>off=0/\n=0/\∃o,v=.slice o 0 0/\∀a,o=some a->a.spot=none|some i=>(0<off/\n=0/\∃a c,v=.slice (some a) 0 c/\a.spot=none)\/v=.slice (some ⟨i,off*sz,none⟩) n (bP+off)
mutual
def aB(x:Cx):U->A->Prop
 |.junk,_=>True|.bool b,v=>v=.bool b
 |.int k n,v=>v=.int k n|.str l,v=>v=.string ⟨⟨l⟩⟩
 |.nilp,v=>v=.pointer none|.ptr k st off,v=>v.oneCell'=true/\Ref x k st fun o=>∃i,o=some i/\v=.pointer (some ⟨i,off,none⟩)
 |.iptr l,v=>∃i off row e,v=.pointer (some ⟨i,off,none⟩)/\lk x.s.h i=some (.inl (row,e,1))/\c8 x l (row.drop off)/\okL l=true|.nils,v=>v=.slice none 0 0
 |.sl k off n c,v=>v.oneCell'=true/\Ref x k 0 fun o=>∃i,o=some i/\v=.slice (some ⟨i,off,none⟩) n c/\c<bP/\n<=c
 |.vl k st off n,v=>v.oneCell'=true/\k<x.X.nx/\∀b,gt x.X.h k=some b->st<=b.st/\(st=b.st->∃l e sz,b=.vec l e sz st/\FL off n v sz (x.Y k))|.isl t l,v=>(l=[]/\(v=.slice none 0 0\/∃r,v=.chan (some r)))\/∃i off c,v=.slice (some ⟨i,off,none⟩) l.length c/\(t=true->c=l.length/\c<bP)/\
   (l=[]\/∃row e sz,lk x.s.h i=some (.inl (row,e,1))/\gO x sz l (row.drop off)/\ ((c<bP/\l.length<=c)\/(bP<=c/\e=sz+1/\0<sz/\off=bI c*sz/\off+l.length*sz<=row.length)))
 |.nilm,v=>v=.map none|.map k,v=>v.oneCell'=true/\Ref x k 0 fun o=>∃i,o=some i/\v=.map (some i)
 |.fn f a b,v=>∃va vb,v=.func f ⟨va⟩ ⟨vb⟩/\c8 x a va/\a.length=va.length/\c8 x b vb/\b.length=vb.length|.nilf,v=>v=.nilFunc
 |.nili,v=>v=.nilIface|.agg l,v=>∃vs,v=.agg ⟨vs⟩/\c8 x l vs/\l.length=vs.length/\okL l=true
 |.tup l,v=>∃vs,v=.tuple ⟨vs⟩/\c8 x l vs/\l.length=vs.length
def c8(x:Cx):Z U->Z A->Prop
 |[],_=>True|u::us,vs=>match vs with
  |[]=>False|v::vs=>aB x u v/\c8 x us vs
def gO(x:Cx)(sz:Nat):Z (Z U)->Z A->Prop
 |[],_=>True|c::cs,vs=>c.length=sz/\okL c=true/\c8 x c vs/\gO x sz cs (vs.drop sz)
end
mutual
def aP(n:Nat):U->Prop
 |.ptr k _ _=>k<n|.sl k _ _ _=>k<n
 |.vl k _ _ _=>k<n|.map k=>k<n
 |.iptr l=>aF n l|.isl _ l=>jO n l
 |.fn _ a b=>aF n a/\aF n b|.agg l=>aF n l
 |.tup l=>aF n l|_=>True
def aF(n:Nat):Z U->Prop
 |[]=>True|u::us=>aP n u/\aF n us
def jO(n:Nat):Z (Z U)->Prop
 |[]=>True|c::cs=>aF n c/\jO n cs
end
def FZ(x:Cx):∀(l:Z U)(vs:Z A),c8 x l vs↔∀(i:Nat)(u:U),l[i]? = some u->∃v,vs[i]? = some v/\aB x u v
 |[],vs=>by simp[c8]
 |u::us,[]=>by simp only[c8,false_iff];intro h;obtain⟨v,hv,_⟩:=h 0 u rfl;simp at hv
 |u::us,v::vs=>by
  simp only[c8,FZ x us vs];constructor;rintro⟨h1,h2⟩ i w hi;cases i with
  |zero=>simp at hi;subst hi;exact⟨v,rfl,h1⟩|succ i=>simp at hi;simpa using h2 i w hi
  intro h;refine⟨?_,fun i w hi=>by simpa using h (i+1) w (by simpa using hi)⟩;obtain⟨v',h1,h2⟩:=h 0 u rfl;simp at h1;subst h1;exact h2
def AI(n:Nat):∀l:Z U,aF n l↔∀u∈l,aP n u
 |[]=>by simp[aF]
 |u::us=>by simp[aF,AI n us]
def Fs(n:Nat):∀l:Z (Z U),jO n l↔∀c∈l,aF n c
 |[]=>by simp[jO]
 |u::us=>by simp[jO,Fs n us]
structure Mo(n:Nat)(x y:Cx):Prop where
 ref:∀k,k<n->k<x.X.nx->k<y.X.nx/\∀b',gt y.X.h k=some b'->∃b,gt x.X.h k=some b/\b.st<=b'.st/\(b.st=b'.st->y.Y k=x.Y k/\∀l e sz st,b=.vec l e sz st->∃l',b'=.vec l' e sz st)
 imm:∀i row e,lk x.s.h i=some (.inl (row,e,1))->lk y.s.h i=some (.inl (row,e,1))
variable{n:Nat}
variable{x:Cx}
variable{y:Cx}
def Mo.ref'(h:Mo n x y){k st:Nat}{p:I Nat->Prop}(hk:k<n)(hr:Ref x k st p):Ref y k st p:=by
 obtain⟨h1,h2⟩:=hr;obtain⟨g1,g2⟩:=h.ref k hk h1;refine⟨g1,fun b' bV=>?_⟩;obtain⟨b,e1,e2,e3⟩:=g2 b' bV;obtain⟨e4,e5⟩:=h2 b e1;refine⟨Nat.le_trans e4 e2,fun e=>?_⟩;have:b.st=b'.st:=by omega
 rw[(e3 this).1];exact e5 (by omega)
mutual
def aB.mono{n:Nat}{x y:Cx}(h:Mo n x y):(u:U)->(v:A)->aP n u->aB x u v->aB y u v
 |.junk,v,_,_=>by simp[aB]
 |.bool b,v,_,hr=>by simpa[aB]using hr
 |.int k z,v,_,hr=>by simpa[aB]using hr
 |.str l,v,_,hr=>by simpa[aB]using hr
 |.nilp,v,_,hr=>by simpa[aB]using hr
 |.ptr k st off,v,hb,hr=>by simp only[aB]at*;exact⟨hr.1,h.ref' (by simpa[aP]using hb) hr.2⟩
 |.iptr l,v,hb,hr=>by simp only[aB]at*;obtain⟨i,off,row,e,h1,h2,h3,h4⟩:=hr;exact⟨i,off,row,e,h1,h.imm _ _ _ h2,c8.mono h l _ (by simpa[aP]using hb) h3,h4⟩
 |.nils,v,_,hr=>by simpa[aB]using hr
 |.sl k off m c,v,hb,hr=>by simp only[aB]at*;exact⟨hr.1,h.ref' (by simpa[aP]using hb) hr.2⟩
 |.vl k st off m,v,hb,hr=>by
  simp only[aB]at*;obtain⟨h0,h1,h2⟩:=hr;obtain⟨g1,g2⟩:=h.ref k (by simpa[aP]using hb) h1;refine⟨h0,g1,fun b' bV=>?_⟩;obtain⟨b,e1,e2,e3⟩:=g2 b' bV;obtain⟨e4,e5⟩:=h2 b e1;refine⟨Nat.le_trans e4 e2,fun e=>?_⟩;have e6:b.st=b'.st:=by omega
  obtain⟨l,e',sz,e7,e8⟩:=e5 (by omega);obtain⟨e9,e10⟩:=e3 e6;obtain⟨l',e11⟩:=e10 _ _ _ _ e7;rw[e9];exact⟨l',e',sz,e11,e8⟩
 |.isl t l,v,hb,hr=>by simp only[aB]at*;rcases hr with hr |⟨i,off,c,h1,h2,h3⟩;exact .inl hr;refine .inr ⟨i,off,c,h1,h2,?_⟩;rcases h3 with h3 |⟨row,e,sz,g1,g2,g3⟩;exact .inl h3;exact .inr ⟨row,e,sz,h.imm _ _ _ g1,gO.mono h l _ (by simpa[aP]using hb) g2,g3⟩
 |.nilm,v,_,hr=>by simpa[aB]using hr
 |.map k,v,hb,hr=>by simp only[aB]at*;exact⟨hr.1,h.ref' (by simpa[aP]using hb) hr.2⟩
 |.fn f a b,v,hb,hr=>by simp only[aB]at*;obtain⟨va,vb,h1,h2,h3,h4,h5⟩:=hr;simp only[aP]at hb;exact⟨va,vb,h1,c8.mono h a _ hb.1 h2,h3,c8.mono h b _ hb.2 h4,h5⟩
 |.nilf,v,_,hr=>by simpa[aB]using hr
 |.nili,v,_,hr=>by simpa[aB]using hr
 |.agg l,v,hb,hr=>by simp only[aB]at*;obtain⟨vs,h1,h2,h3⟩:=hr;exact⟨vs,h1,c8.mono h l _ (by simpa[aP]using hb) h2,h3⟩
 |.tup l,v,hb,hr=>by simp only[aB]at*;obtain⟨vs,h1,h2,h3⟩:=hr;exact⟨vs,h1,c8.mono h l _ (by simpa[aP]using hb) h2,h3⟩
def c8.mono{n:Nat}{x y:Cx}(h:Mo n x y):(l:Z U)->(vs:Z A)->aF n l->c8 x l vs->c8 y l vs
 |[],_,_,_=>by simp[c8]
 |u::us,[],_,hr=>by simp[c8]at hr
 |u::us,v::vs,hb,hr=>by simp only[c8,aF]at*;exact⟨aB.mono h u v hb.1 hr.1,c8.mono h us vs hb.2 hr.2⟩
def gO.mono{n sz:Nat}{x y:Cx}(h:Mo n x y):(l:Z (Z U))->(vs:Z A)->jO n l->gO x sz l vs->gO y sz l vs
 |[],_,_,_=>by simp[gO]
 |c::cs,vs,hb,hr=>by simp only[gO,jO]at*;exact⟨hr.1,hr.2.1,c8.mono h c vs hb.1 hr.2.2.1,gO.mono h cs _ hb.2 hr.2.2.2⟩
end
mutual
def aB.bel{x:Cx}:(u:U)->(v:A)->aB x u v->aP x.X.nx u
 |.ptr k st off,v,hr=>by simp only[aB,aP]at*;exact hr.2.1
 |.sl k off m c,v,hr=>by simp only[aB,aP]at*;exact hr.2.1
 |.vl k st off m,v,hr=>by simp only[aB,aP]at*;exact hr.2.1
 |.map k,v,hr=>by simp only[aB,aP]at*;exact hr.2.1
 |.iptr l,v,hr=>by simp only[aB,aP]at*;obtain⟨i,off,row,e,h1,h2,h3,_⟩:=hr;exact c8.bel l _ h3
 |.isl t l,v,hr=>by simp only[aB,aP]at*;rcases hr with⟨rfl,_⟩|⟨i,off,c,h1,h2,h3⟩;simp[jO];rcases h3 with rfl |⟨row,e,sz,g1,g2,_⟩;simp[jO];exact gO.bel l _ g2
 |.fn f a b,v,hr=>by simp only[aB,aP]at*;obtain⟨va,vb,h1,h2,h3,h4,h5⟩:=hr;exact⟨c8.bel a _ h2,c8.bel b _ h4⟩
 |.agg l,v,hr=>by simp only[aB,aP]at*;obtain⟨vs,h1,h2,h3⟩:=hr;exact c8.bel l _ h2
 |.tup l,v,hr=>by simp only[aB,aP]at*;obtain⟨vs,h1,h2,h3⟩:=hr;exact c8.bel l _ h2
 |.junk,_,_=>by simp[aP]
 |.bool _,_,_=>by simp[aP]
 |.int _ _,_,_=>by simp[aP]
 |.str _,_,_=>by simp[aP]
 |.nilp,_,_=>by simp[aP]
 |.nils,_,_=>by simp[aP]
 |.nilm,_,_=>by simp[aP]
 |.nilf,_,_=>by simp[aP]
 |.nili,_,_=>by simp[aP]
def c8.bel{x:Cx}:(l:Z U)->(vs:Z A)->c8 x l vs->aF x.X.nx l
 |[],_,_=>by simp[aF]
 |u::us,[],hr=>by simp[c8]at hr
 |u::us,v::vs,hr=>by simp only[c8,aF]at*;exact⟨aB.bel u v hr.1,c8.bel us vs hr.2⟩
def gO.bel{x:Cx}{sz:Nat}:(l:Z (Z U))->(vs:Z A)->gO x sz l vs->jO x.X.nx l
 |[],_,_=>by simp[jO]
 |c::cs,vs,hr=>by simp only[gO,jO]at*;exact⟨c8.bel c vs hr.2.2.1,gO.bel cs _ hr.2.2.2⟩
end
def aX(x:Cx)(l:Z U)(vs:Z A):Prop:=c8 x l vs/\l.length=vs.length
variable{l:Z U}
variable{vs:Z A}
variable{u:U}
def aX.get(h:aX x l vs){i:Nat}(hu:l[i]? = some u):∃v,vs[i]? = some v/\aB x u v:=(FZ x l vs).1 h.1 i u hu
def aX.mk'(hl:l.length=vs.length)(h:∀(i:Nat)(u:U),l[i]? = some u->∃v,vs[i]? = some v/\aB x u v):aX x l vs:=⟨(FZ x l vs).2 h,hl⟩
def aX.nil(x:Cx):aX x [] []:=⟨by simp[c8],rfl⟩
def aX.cons{v:A}(h:aB x u v)(h':aX x l vs):aX x (u::l) (v::vs):=⟨by simp[c8,h,h'.1],by simp[h'.2]⟩
def aX.inv(h:aX x (u::l) vs):∃v pL,vs=v::pL/\aB x u v/\aX x l pL:=by obtain⟨h1,h2⟩:=h;rcases vs with _|⟨v,vs⟩;simp at h2;simp only[c8]at h1;exact⟨v,vs,rfl,h1.1,h1.2,by simpa using h2⟩
def aX.nil_inv(h:aX x [] vs):vs=[]:=by have:=h.2;simpa using this.symm
def aX.append{a b:Z U}{va vb:Z A}(h:aX x a va)(h':aX x b vb):aX x (a++b) (va++vb):=by induction a generalizing va with|nil=>rw[h.nil_inv];exact h'|cons u a ih=>obtain⟨v,vs,rfl,h1,h2⟩:=h.inv;exact aX.cons h1 (ih h2)
def aX.drop{x:Cx}{a:Z U}{va:Z A}(h:aX x a va)(n:Nat):aX x (a.drop n) (va.drop n):=by refine aX.mk' (by simp[h.2]) fun i u hu=>?_;rw[List.getElem?_drop]at hu ⊢;exact h.get hu
def aX.take{x:Cx}{a:Z U}{va:Z A}(h:aX x a va)(n:Nat):aX x (a.take n) (va.take n):=by refine aX.mk' (by simp[h.2]) fun i u hu=>?_;rw[List.getElem?_take]at hu ⊢;split at hu;rename_i aH;simp only[aH,if_true];exact h.get hu;cases hu
def aX.set{x:Cx}{a:Z U}{va:Z A}(h:aX x a va)(n:Nat){u:U}{v:A}(hu:aB x u v):aX x (a.set n u) (va.set n v):=by refine aX.mk' (by simp[h.2]) fun i w hw=>?_;rw[List.getElem?_set]at hw ⊢;split at hw;split at hw;cases hw;rename_i h1 h2;subst h1;rw[h.2]at h2;simp[h2,hu];cases hw;rename_i cT;simp only[cT,if_false];exact h.get hw
def aX.mono{n:Nat}{x y:Cx}(h:Mo n x y){l:Z U}{vs:Z A}(hb:aF n l)(hr:aX x l vs):aX y l vs:=⟨c8.mono h l vs hb hr.1,hr.2⟩
def c8.takeE(h:c8 x l vs):aX x l (vs.take l.length):=by
 refine aX.mk' ?_ fun i u hu=>?_;rcases Nat.lt_or_ge vs.length l.length with aH |AY
 have hu:l[vs.length]? = some l[vs.length]:=by simp[aH]
 obtain⟨v,hv,_⟩:=(FZ x l vs).1 h _ _ hu;simp at hv;simp;omega;obtain⟨v,hv,hr⟩:=(FZ x l vs).1 h i u hu;have:i<l.length:=(zG.1 hu).1;exact⟨v,by rw[List.getElem?_take];simp[this,hv],hr⟩
def c8.len(h:c8 x l vs):l.length<=vs.length:=by have:=h.takeE.2;rw[List.length_take]at this;omega
def c8.drop{x:Cx}{l:Z U}{vs:Z A}(h:c8 x l vs)(n:Nat):c8 x (l.drop n) (vs.drop n):=by rw[FZ]at*;intro i u hu;rw[List.getElem?_drop]at hu ⊢;exact h _ _ hu
def nI(x:Cx)(es:Z ME)(vs:Z MapEntry):Prop:=es.length=vs.length/\∀(i:Nat)(e:ME),es[i]? = some e->∃v:MapEntry,vs[i]? = some v/\aB x e.key v.key/\aB x e.val v.val/\v.born=e.born
def mQ(x:Cx)(k:Nat):B->Prop
 |.row l e=>okL l=true/\∃i l',x.Y k=some i/\lk x.s.h i=some (.inl (l',e,0))/\aX x l l'|.vec l e sz _=>okL l=true/\0<sz/\(l=[]/\x.Y k=none\/∃i l',x.Y k=some i/\lk x.s.h i=some (.inl (l',e,sz+2))/\aX x l l')
 |.map es cl=>∃i es',x.Y k=some i/\lk x.s.h i=some (.inr (es',cl))/\nI x es es'
structure i8(x:Cx):Prop where
 ok:∀k b,gt x.X.h k=some b->k<x.X.nx/\mQ x k b
 inj:∀k k' b b' i,gt x.X.h k=some b->gt x.X.h k'=some b'->x.Y k=some i->x.Y k'=some i->k=k'
 bd:∀i b,lk x.s.h i=some b->i<x.s.nx
def Fr(F:Nat->lJ->Prop)(x:Cx):Prop:=∀i b,F i b->lk x.s.h i=some b/\∀k c,gt x.X.h k=some c->x.Y k≠some i
def Ke(n:Nat)(x y:Cx):Prop:=∀u v,aP n u->aB x u v->aB y u v
def Ke.refl(n:Nat)(x:Cx):Ke n x x:=fun _ _ _ h=>h
def Ke.trans{z:Cx}(h:Ke n x y)(h':Ke n y z):Ke n x z:=fun u v hb hr=>h' u v hb (h u v hb hr)
mutual
def aP.le{n k:Nat}(h:n<=k):(u:U)->aP n u->aP k u
 |.ptr a _ _,hb=>by simp only[aP]at*;omega
 |.sl a _ _ _,hb=>by simp only[aP]at*;omega
 |.vl a _ _ _,hb=>by simp only[aP]at*;omega
 |.map a,hb=>by simp only[aP]at*;omega
 |.iptr l,hb=>by simp only[aP]at*;exact aF.le h l hb
 |.isl t l,hb=>by simp only[aP]at*;exact jO.le h l hb
 |.fn f a b,hb=>by simp only[aP]at*;exact⟨aF.le h a hb.1,aF.le h b hb.2⟩
 |.agg l,hb=>by simp only[aP]at*;exact aF.le h l hb
 |.tup l,hb=>by simp only[aP]at*;exact aF.le h l hb
 |.junk,_=>by simp[aP]
 |.bool _,_=>by simp[aP]
 |.int _ _,_=>by simp[aP]
 |.str _,_=>by simp[aP]
 |.nilp,_=>by simp[aP]
 |.nils,_=>by simp[aP]
 |.nilm,_=>by simp[aP]
 |.nilf,_=>by simp[aP]
 |.nili,_=>by simp[aP]
def aF.le{n k:Nat}(h:n<=k):(l:Z U)->aF n l->aF k l
 |[],_=>by simp[aF]
 |u::us,hb=>by simp only[aF]at*;exact⟨aP.le h u hb.1,aF.le h us hb.2⟩
def jO.le{n k:Nat}(h:n<=k):(l:Z (Z U))->jO n l->jO k l
 |[],_=>by simp[jO]
 |u::us,hb=>by simp only[jO]at*;exact⟨aF.le h u hb.1,jO.le h us hb.2⟩
end
def Ke.le{n k:Nat}{x y:Cx}(h:Ke k x y)(hk:n<=k):Ke n x y:=fun u v hb hr=>h u v (aP.le hk u hb) hr
def Mo.ke(h:Mo n x y):Ke n x y:=fun u v hb hr=>aB.mono h u v hb hr
def Ke.E(h:Ke n x y)(hb:aF n l)(hr:aX x l vs):aX y l vs :=
 aX.mk' hr.2 fun i u hu=>by obtain⟨v,h1,h2⟩:=hr.get hu;exact⟨v,h1,h u v ((AI n l).1 hb u (zX hu)) h2⟩
def aX.bel{x:Cx}{l:Z U}{vs:Z A}(hr:aX x l vs):aF x.X.nx l:=c8.bel l vs hr.1
mutual
def toV:U->I A
 |.bool b=>some (.bool b)|.int k n=>some (.int k n)
 |.str s=>some (.string ⟨⟨s⟩⟩)|.nilp=>some (.pointer none)
 |.nils=>some (.slice none 0 0)|.nilm=>some (.map none)
 |.nilf=>some .nilFunc|.nili=>some .nilIface
 |.agg l=>cond (okL l) (match mR l with
  |some vs=>some (.agg ⟨vs⟩)|none=>none) none
 |_=>none
def mR:Z U->I (Z A)
 |[]=>some []|u::l=>match toV u with
  |some v=>(match mR l with
   |some vs=>some (v::vs)|none=>none)
  |none=>none
end
mutual
def iB:A->I U
 |.bool b=>some (.bool b)|.int k n=>some (.int k n)
 |.string s=>some (.str s.data.toList)|.pointer none=>some .nilp
 |.slice none n c=>match n,c with
  |0,0=>some .nils|_,_=>none
 |.map none=>some .nilm|.nilFunc=>some .nilf
 |.nilIface=>some .nili|.agg ⟨l⟩=>match nH l with
  |some us=>cond (okL us) (some (.agg us)) none|none=>none
 |_=>none
def nH:Z A->I (Z U)
 |[]=>some []|v::l=>match iB v with
  |some u=>(match nH l with
   |some us=>some (u::us)|none=>none)
  |none=>none
end
def uG:U->I (Z U)
 |.junk=>none|.tup _=>none
 |.agg l=>some l|u=>some [u]
def bS(tm:Z U):Jp->I U
 |.tmp t=>nth tm t|.const v=>iB v
 |.func f=>some (.fn (.func f) [] [])|.global _=>none
def lP(tm:Z U):Z Jp->I (Z U)
 |[]=>some []|x::l=>match bS tm x with
  |some v=>(match lP tm l with
   |some r=>some (v::r)|none=>none)
  |none=>none
def wZ(tm:Z U):Z (Nat×Jp)->I (Z (Nat×U))
 |[]=>some []|(i,x)::l=>match bS tm x with
  |some v=>(match wZ tm l with
   |some r=>some ((i,v)::r)|none=>none)
  |none=>none
def uF(tm:Z U):I Jp->I (I A)
 |none=>some none|some x=>match bS tm x with
  |some (.int k n)=>some (some (.int k n))|_=>none
def live(X:Sg)(k st:Nat):BQ:=match gt X.h k with
 |some b=>Nat.beq b.st st|none=>false
def cellsOf(X:Sg)(k st:Nat):I (Z U):=match gt X.h k with
 |some (.row l _)=>cond (Nat.beq 0 st) (some l) none|some (.vec l _ _ bG)=>cond (Nat.beq bG st) (some l) none
 |_=>none
def rowOf(X:Sg)(k:Nat):I (Z U):=match gt X.h k with
 |some (.row l _)=>some l|_=>none
def mK(X:Sg)(k st:Nat):I (Z U×O×Nat):=match gt X.h k with
 |some (.vec l e sz bG)=>cond (Nat.beq bG st) (some (l,e,sz)) none|_=>none
def JH(X:Sg)(k:Nat)(l:Z U):I Sg:=match gt X.h k with
 |some (.row _ e)=>some ⟨ug X.h k (.row l e),X.nx⟩|some (.vec _ e sz st)=>some ⟨ug X.h k (.vec l e sz st),X.nx⟩
 |_=>none
def iZ(l:Z U)(off n:Nat):I (Z U):=if off+n<=l.length then some ((l.drop off).take n)else none
def o6(l:Z U)(off:Nat)(vs:Z U):I (Z U):=if off+vs.length<=l.length then some (l.take off++(vs++l.drop (off+vs.length)))else none
def Xl(T:Tb)(t:O)(cs:Z U)(off:Nat):I U :=
 match T.und t with
 |none=>none|some d=>cond (p9 d) (match c6 T t with
   |some n=>some (.agg ((cs.drop off).take n))|none=>none) (nth cs off)
def pT(place:Nat->I (Nat×Nat))(cells:Z U):Z (Nat×U)->I (Z U)
 |[]=>some cells|(i,v)::rest=>match place i with
  |none=>none|some (off,size)=>match uG v with
   |none=>none|some cs=>cond (Nat.beq cs.length size) (match o6 cells off cs with
    |some c=>pT place c rest|none=>none) none
def En(T:Tb)(t:O)(ps:Z (Nat×U)):I U :=
 match T.inf t with
 |none=>none|some (_,_,z)=>match nH z.cells.toList with
  |none=>none|some zu=>match T.und t with
   |some (.struct fs)=>cond (FU T fs.toList) (match pT (JT T fs.toList) zu ps with
    |some cs=>cond (okL cs) (some (.agg cs)) none|none=>none) none
   |some (.array _ e)=>(match c6 T e with
    |none=>none|some n=>match pT (fun i=>some (i*n,n)) zu ps with
     |some cs=>cond (okL cs) (some (.agg cs)) none|none=>none)
   |_=>none
def g1(f:A->I A)(u:U):I U:=match toV u with
 |some v=>(match f v with
  |some r=>iB r|none=>none)
 |none=>none
def g2(f:A->A->I A)(a b:U):I U:=match toV a with
 |some x=>(match toV b with
  |some y=>(match f x y with
   |some r=>iB r|none=>none)
  |none=>none)
 |none=>none
def fZ(X:Sg):U->Nat
 |.ptr k st _=>cond (live X k st) 1 0|.iptr _=>1
 |.sl k _ _ _=>cond (live X k 0) 2 0|.vl k st _ (_+1)=>cond (live X k st) 2 0
 |.isl _ (_::_)=>2|.map k=>cond (live X k 0) 3 0
 |_=>0
def JR:U->Nat
 |.nilp=>1|.nils=>2
 |.nilm=>3|_=>0
def wU(T:Tb)(t:O):Nat:=match T.und t with
 |some (.pointer _)=>1|some (.slice _)=>2
 |some (.map _ _)=>3|_=>0
def DC:BinOp->I U
 |.eql=>some (.bool false)|.neq=>some (.bool true)
 |_=>none
def Dz(T:Tb)(X:Sg)(op:BinOp)(t:O)(x y:U):I U :=
 cond (Nat.beq (wU T t) 0) none (cond (cond (Nat.beq (fZ X x) (wU T t)) (Nat.beq (JR y) (wU T t)) (cond (Nat.beq (JR x) (wU T t)) (Nat.beq (fZ X y) (wU T t)) false)) (DC op) none)
def IF(T:Tb)(X:Sg)(op:BinOp)(t:O)(x y:U):I U:=match g2 (sJ T op t) x y with
 |some r=>some r|none=>Dz T X op t x y
def Nh(T:Tb)(X:Sg)(st:O)(x:U)(f:Nat):I U :=
 match T.und st with
 |some (.struct fs)=>match nth fs.toList f with
  |some fd=>(match c6 T fd.type with
   |some (_+1)=>match x with
    |.ptr k s off=>cond (live X k s) (some (.ptr k s (off+fd.offset))) none|.iptr l=>some (.iptr (l.drop fd.offset))
    |_=>none
   |_=>none)
  |none=>none
 |_=>none
def bq(T:Tb)(st:O)(x:U)(f:Nat):I U :=
 match T.und st with
 |some (.struct fs)=>match nth fs.toList f with
  |some fd=>(match x with
   |.agg cs=>Xl T fd.type cs fd.offset|_=>none)
  |none=>none
 |_=>none
def AH(T:Tb)(X:Sg)(t:O)(x ix:U):I U :=
 match ix with
 |.int _ i=>match T.und t with
  |some (.slice e)=>(match c6 T e with
   |some sz=>match x with
    |.sl k off n _=>cond (live X k 0) (if 0<=i/\i<n then some (.ptr k 0 (off+i.toNat*sz))else none) none|.vl k st off n=>(match mK X k st with
     |some (l,_,gS)=>cond (Nat.beq gS sz) (if 0<=i/\i<n/\l≠[]then some (.ptr k st (off*sz+i.toNat*sz))else none) none|none=>none)
    |.isl _ l=>if 0<=i/\i<l.length then(match l[i.toNat]? with
     |some c=>cond (Nat.beq c.length sz) (some (.iptr c)) none|none=>none)else none
    |_=>none
   |none=>none)
  |some (.array n e)=>(match c6 T e with
   |some sz=>match x with
    |.ptr k st off=>cond (live X k st) (if 0<=i/\i<n then some (.ptr k st (off+i.toNat*sz))else none) none|.iptr l=>if 0<=i/\i<n then some (.iptr (l.drop (i.toNat*sz)))else none
    |_=>none
   |none=>none)
  |_=>none
 |_=>none
def Yn(T:Tb)(t:O)(x ix:U):I U :=
 match x with
 |.agg cs=>(match ix with
  |.int _ i=>match T.und t with
   |some (.array n e)=>(if 0<=i/\i<n then(match c6 T e with
    |some sz=>Xl T e cs (i.toNat*sz)|none=>none)else none)
   |_=>none
  |_=>none)
 |_=>g2 (WI T t) x ix
def Zy(x:U)(i:Nat):I U:=match x with
 |.tup vs=>nth vs i|_=>none
def v7(T:Tb)(X:Sg)(t:O)(x:U):I U:=match T.und t with
 |some (.slice _)=>(match x with
  |.nils=>some (.int .i64 0)|.sl k _ n _=>cond (live X k 0) (some (.int .i64 n)) none
  |.vl k st _ n=>cond (live X k st) (some (.int .i64 n)) none|.isl _ l=>some (.int .i64 l.length)
  |_=>none)
 |some .string=>(match x with
  |.str s=>some (.int .i64 s.length)|_=>none)
 |some (.array n _)=>(match x with
  |.junk=>none|_=>some (.int .i64 n))
 |some (.map _ _)=>(match x with
  |.nilm=>some (.int .i64 0)|.map k=>(match gt X.h k with
   |some (.map es _)=>some (.int .i64 es.length)|_=>none)
  |_=>none)
 |_=>none
def Ci(T:Tb)(X:Sg)(t:O)(x:U):I U:=match T.und t with
 |some (.slice _)=>(match x with
  |.nils=>some (.int .i64 0)|.sl k _ _ c=>cond (live X k 0) (some (.int .i64 c)) none
  |_=>none)
 |_=>none
def o8{v11:Type}(l:Z v11)(lo hi:Nat):Z v11:=(l.take hi).drop lo
def PW(T:Tb)(X:Sg)(t:O)(x:U)(lo hi mx:I A):I U :=
 match T.und t with
 |some .string=>(match x with
  |.str s=>(match mx with
   |some _=>none|none=>match fD s.length s.length lo hi none with
    |some (l,h,_)=>some (.str (o8 s l h))|none=>none)
  |_=>none)
 |some (.slice e)=>(match c6 T e with
  |some sz=>match x with
   |.nils=>(match fD 0 0 lo hi mx with
    |some _=>some .nils|none=>none)
   |.sl k off n c=>cond (live X k 0) (match fD n c lo hi mx with
    |some (l,h,m)=>some (.sl k (cond (Nat.beq m l) off (off+l*sz)) (h-l) (m-l))|none=>none) none
   |.vl k st off n=>(match mK X k st with
    |some (r,_,gS)=>cond (Nat.beq gS sz) (match mx with
     |some _=>none|none=>match fD n n lo hi none with
      |some (l,h,_)=>if(off+n)*sz<=r.length then some (.vl k st (off+l) (h-l))else none|none=>none) none
    |none=>none)
   |.isl t l=>if(l.all fun c=>Nat.beq c.length sz)=true then(match fD l.length l.length lo hi mx with
    |some (a,h,m)=>(match mx with
      |some _=>if m<bP then some (.isl (Nat.beq m h) (o8 l a h))else none|none=>some (.isl (cond t (Nat.beq h l.length) false) (o8 l a h)))
    |none=>none)else none
   |_=>none
  |none=>none)
 |_=>none
def gW(T:Tb)(X:Sg)(tm:Z U)(op:Op):I U :=
 match op with
 |.move x=>bS tm x|.assign x=>bS tm x
 |.pick c a b=>(match bS tm c with
  |some (.bool true)=>bS tm a|some (.bool false)=>bS tm b
  |_=>none)
 |.build t ps=>(match wZ tm ps.toList with
  |some qs=>En T t qs|none=>none)
 |.nilCheck x=>(match bS tm x with
  |some (.ptr k st off)=>cond (live X k st) (some (.ptr k st off)) none|some (.iptr l)=>some (.iptr l)
  |some (.fn (.func f) a b)=>some (.fn (.func f) a b)|_=>none)
 |.binOp op t x y _=>(match bS tm x,bS tm y with
  |some a,some b=>IF T X op t a b|_,_=>none)
 |.unOp op _ x=>(match bS tm x with
  |some a=>g1 (P0 op) a|none=>none)
 |.convert s d x=>(match bS tm x with
  |some a=>g1 (WB T s d) a|none=>none)
 |.makeFunc fn first cap=>(match lP tm first.toList,lP tm cap.toList with
  |some a,some b=>some (.fn fn a b)|_,_=>none)
 |.slice t x lo hi mx=>(match bS tm x,uF tm lo,uF tm hi,uF tm mx with
  |some a,some l,some h,some m=>PW T X t a l h m|_,_,_,_=>none)
 |.fieldAddr t x f=>(match bS tm x with
  |some a=>Nh T X t a f|none=>none)
 |.field t x f=>(match bS tm x with
  |some a=>bq T t a f|none=>none)
 |.indexAddr t x i=>(match bS tm x,bS tm i with
  |some a,some b=>AH T X t a b|_,_=>none)
 |.index t x i=>(match bS tm x,bS tm i with
  |some a,some b=>Yn T t a b|_,_=>none)
 |.extract x i=>(match bS tm x with
  |some a=>Zy a i|none=>none)
 |.call c=>(match c.callee with
  |.builtin .len=>(match lP tm c.args.toList,c.argTypes.toList with
   |some [x],t::_=>v7 T X t x|_,_=>none)
  |.builtin .cap=>(match lP tm c.args.toList,c.argTypes.toList with
   |some [x],t::_=>Ci T X t x|_,_=>none)
  |.builtin .max=>(match lP tm c.args.toList with
   |some (x::l)=>(match toV x,mR l with
    |some a,some b=>(match wV W8 a b with
     |some r=>iB r|none=>none)
    |_,_=>none)
   |_=>none)
  |.builtin .min=>(match lP tm c.args.toList with
   |some (x::l)=>(match toV x,mR l with
    |some a,some b=>(match wV PU a b with
     |some r=>iB r|none=>none)
    |_,_=>none)
   |_=>none)
  |_=>none)
 |_=>none
def BW(T:Tb)(kt:O)(k:A):Z ME->Nat->I (I (Nat×U))
 |[],_=>some none|e::es,i=>match toV e.key with
  |none=>none|some k'=>match eqv T 50 kt k k' with
   |some true=>some (some (i,e.val))|some false=>BW T kt k es (i+1)
   |none=>none
def E3(T:Tb)(t:O)(l:Z U)(off:Nat):I U:=match T.und t with
 |none=>none|some d=>cond (p9 d) (match c6 T t with
   |some n=>(match iZ l off n with
    |some cs=>some (.agg cs)|none=>none)
   |none=>none) (nth l off)
def oY(T:Tb)(X:Sg)(tm:Z U)(op:Op):I U :=
 match op with
 |.load t x=>(match bS tm x with
  |some (.ptr k st off)=>(match cellsOf X k st with
   |some l=>E3 T t l off|none=>none)
  |some (.iptr l)=>E3 T t l 0|_=>none)
 |.lookup t x k ok=>(match T.und t,bS tm x,bS tm k with
  |some (.map kt et),some m,some ku=>(match toV ku with
   |none=>none|some kv=>cond (o7 T 50 kt kv)
    (match (match m with
      |.nilm=>some []|.map r=>(match gt X.h r with
       |some (.map es _)=>some es|_=>none)
      |_=>none)with
     |none=>none|some es=>match BW T kt kv es 0 with
      |none=>none|some (some (_,v))=>some (cond ok (.tup [v,.bool true]) v)
      |some none=>match T.inf et with
       |some (_,_,z)=>(match iB z with
        |some zu=>some (cond ok (.tup [zu,.bool false]) zu)|none=>none)
       |none=>none) none)
  |_,_,_=>none)
 |_=>none
def Is:U->U
 |.nils=>.isl false []|.isl _ l=>.isl false l
 |u=>u
def oU:Z U->Z U
 |[]=>[]|u::l=>Is u::oU l
def newU(X:Sg)(b:B):Sg:=⟨(X.nx,b)::X.h,X.nx+1⟩
def rK(X:Sg)(sz:Nat)(x:U):I (Nat×Z U):=match x with
 |.nils=>some (0,[])|.isl _ l=>if(l.all fun c=>Nat.beq c.length sz)=true then some (l.length,l.flatten)else none
 |.sl k off n _=>(match rowOf X k with
  |some l=>(match iZ l off (n*sz)with
   |some cs=>some (n,oU cs)|none=>none)
  |none=>none)
 |.vl k st off n=>(match mK X k st with
  |some (l,_,gS)=>cond (Nat.beq gS sz) (match iZ l (off*sz) (n*sz)with
   |some cs=>some (n,cs)|none=>none) none
  |none=>none)
 |_=>none
def AG(T:Tb)(X:Sg)(t xt:O)(s x:U):I (U×Sg):=
 match T.und t,T.und xt with
 |some (.slice e),some (.slice _)=>(match T.inf e with
  |some (sz+1,by_,z)=>cond (Nat.beq z.cells.toList.length (sz+1)) (match rK X (sz+1) x with
   |none=>none|some (k,new)=>match s with
    |.nils=>if k*by_<=140737488355328/\k<=140737488355328 then some (.vl X.nx 0 0 k,newU X (.vec new e (sz+1) 0))else none|.isl true l=>if(l.length+k)*by_<=140737488355328/\l.length+k<=140737488355328/\0<k/\(l.all fun c=>Nat.beq c.length (sz+1))=true then some (.vl X.nx 0 0 (l.length+k),newU X (.vec (l.flatten++new) e (sz+1) 0))else none
    |.sl a off n c=>(match rowOf X a with
     |none=>none|some l=>match iZ l off (n*(sz+1))with
      |none=>none|some old=>if n=0/\c=0 then(if k*by_<=140737488355328/\k<=140737488355328 then some (.vl X.nx 0 0 k,newU X (.vec new e (sz+1) 0))else none)
       else if c<n+k then(if(n+k)*by_<=140737488355328/\n+k<=140737488355328/\0<k then some (.vl X.nx 0 0 (n+k),newU X (.vec (oU old++new) e (sz+1) 0))else none)else none)
    |.vl a st off n=>(match gt X.h a with
     |some (.vec l e' gS bG)=>cond (Nat.beq bG st) (cond (Nat.beq e' e) (cond (Nat.beq gS (sz+1)) (match iZ l (off*(sz+1)) (n*(sz+1))with
      |none=>none|some p=>if(n+k)*by_<=140737488355328/\n+k<=140737488355328/\(0<k/\(off=0\/0<n)\/off=0/\n*(sz+1)=l.length)then some (.vl a (st+1) 0 (n+k),⟨ug X.h a (.vec (p++new) e (sz+1) (st+1)),X.nx⟩)else none) none) none) none
     |_=>none)
    |_=>none) none
  |_=>none)
 |_,_=>none
def dy(T:Tb)(X:Sg)(t xt:O)(s x:U):I (U×Sg):=
 match T.und t,T.und xt,s,x with
 |some (.slice e),some (.int _),.nils,.int _ i=>(match T.inf e with
  |some (sz+1,by_,z)=>(match nH z.cells.toList with
   |some zu=>if 0<i/\i.toNat*by_<=140737488355328/\i.toNat<=140737488355328/\z.cells.toList.length=sz+1/\okL zu=true then
     some (.vl X.nx 0 0 i.toNat,newU X (.vec (oU (List.replicate i.toNat zu).flatten) e (sz+1) 0))else none
   |none=>none)
  |_=>none)
 |_,_,_,_=>none
def qc(T:Tb)(X:Sg)(t xt:O)(s x:U):I (U×Sg):=match AG T X t xt s x with
 |some r=>some r|none=>dy T X t xt s x
def um(T:Tb)(X:Sg)(t:O)(d x:U):I (U×Sg):=
 match T.und t with
 |some (.slice e)=>(match c6 T e with
  |none=>none|some sz=>match rK X sz x with
   |none=>none|some (k,cs)=>match d with
    |.sl a off n _=>(match rowOf X a with
     |some l=>if n=0\/k=0\/sz=0 then none else(match o6 l off (cs.take (Nat.min k n*sz))with
      |some l'=>(match JH X a l' with
       |some X'=>some (.int .i64 (Nat.min k n),X')|none=>none)
      |none=>none)
     |none=>none)
    |_=>none)
 |_=>none
def DN(X:Sg)(k:Nat)(cs:Z U):Z U:=match gt X.h k with
 |some (.vec _ _ _ _)=>oU cs|_=>cs
def WD(T:Tb)(X:Sg)(t:O)(p u:U):I (U×Sg):=
 match p with
 |.ptr k st off=>(match c6 T t with
  |none=>none|some n=>match uG u with
   |none=>none|some cs=>cond (Nat.beq cs.length n) (cond (okL cs) (match cellsOf X k st with
    |some l=>(match o6 l off (DN X k cs)with
     |some l'=>(match JH X k l' with
      |some X'=>some (.junk,X')|none=>none)
     |none=>none)
    |none=>none) none) none)
 |_=>none
def qV(z:Z U)(n:Nat):Z U:=(List.replicate n z).flatten
def Kw(T:Tb)(X:Sg)(t:O)(l c:U):I (U×Sg):=
 match T.und t,l,c with
 |some (.slice e),.int _ a,.int _ b=>(match T.inf e with
  |some (sz,by_,z)=>(match nH z.cells.toList with
   |some zu=>cond (okL zu) (cond (Nat.beq z.cells.toList.length sz) (if 0<=a/\a<=b/\by_*b.toNat<=281474976710656/\b<=281474976710656 then
     some (.sl X.nx 0 a.toNat b.toNat,newU X (.row (qV (oU zu) b.toNat) e))else none) none) none
   |none=>none)
  |none=>none)
 |_,_,_=>none
def cj(T:Tb)(X:Sg)(t:O)(x:U):I (U×Sg):=
 match T.und t with
 |some (.slice e)=>(match T.inf e with
  |some (sz,_,z)=>(match nH z.cells.toList with
   |some zu=>cond (okL zu) (cond (Nat.beq z.cells.toList.length sz) (match x with
    |.vl k st off n=>(match mK X k st with
     |some (l,e',gS)=>cond (Nat.beq gS sz) (if n=0 then some (.junk,X)else(match o6 l (off*sz) (qV (oU zu) n)with
      |some l'=>some (.junk,⟨ug X.h k (.vec l' e' gS st),X.nx⟩)|none=>none)) none
     |none=>none)
    |.nils=>some (.junk,X)|_=>none) none) none
   |none=>none)
  |none=>none)
 |_=>none
def Nr(T:Tb)(X:Sg)(t:O)(n:Nat)(ps:Z (Nat×U)):I (U×Sg):=
 match T.und t with
 |some (.slice e)=>(match T.inf e with
  |some (sz,_,z)=>cond (Nat.ble (n*sz) 16777216) (cond (Nat.ble n 16777216) (cond (Nat.beq z.cells.toList.length sz) (match nH z.cells.toList with
   |none=>none|some zu=>match pT (fun i=>some (i*sz,sz)) (qV zu n) ps with
    |some cs=>cond (okL cs) (some (.sl X.nx 0 n n,newU X (.row cs e))) none|none=>none) none) none) none
  |none=>none)
 |_=>none
def U9(es:Z ME)(i:Nat)(f:ME->ME):Z ME:=match es,i with
 |[],_=>[]|e::es,0=>f e::es
 |e::es,i+1=>e::U9 es i f
def Lb(b:Int):Z ME->Nat->I Nat
 |[],_=>none|e::es,i=>cond (decide ((e.born:Int)=b)) (some i) (Lb b es (i+1))
def Em(es:Z ME)(i:Nat):Z ME:=match es,i with
 |[],_=>[]|_::es,0=>es
 |e::es,i+1=>e::Em es i
def M5(X:Sg)(r:Nat)(es:Z ME)(cl:Nat):Sg:=⟨ug X.h r (.map es cl),X.nx⟩
def Yj(T:Tb)(X:Sg)(t:O)(m k v:U):I (U×Sg):=
 match T.und t,m with
 |some (.map kt _),.map r=>(match toV k with
  |none=>none|some kv=>cond (o7 T 50 kt kv) (cond (plain kv) (match gt X.h r with
   |some (.map es cl)=>(match BW T kt kv es 0 with
    |none=>none|some none=>some (.junk,M5 X r (es++[{ key:=k,val:=v,born:=cl }]) (cl+1))
    |some (some (i,_))=>match nth es i with
     |none=>none|some e=>match toV e.key with
      |none=>none|some kv'=>cond (A7 50 kv' kv) (some (.junk,M5 X r (U9 es i fun e=>{ e with val:=v }) cl)) none)
   |_=>none) none) none)
 |_,_=>none
def S'(T:Tb)(X:Sg)(t:O)(m k:U):I (U×Sg):=
 match T.und t,m with
 |some (.map kt et),.map r=>(match toV k with
  |none=>none|some kv=>cond (o7 T 50 kt kv) (cond (plain kv) (match gt X.h r with
   |some (.map es cl)=>(match BW T kt kv es 0 with
    |none=>none|some none=>(match T.inf et with
     |none=>none|some (_,_,z)=>match iB z with
      |none=>none|some zu=>some (.tup [zu,.int .i64 cl],M5 X r (es++[{ key:=k,val:=zu,born:=cl }]) (cl+1)))
    |some (some (i,v))=>match nth es i with
     |none=>none|some e=>match toV e.key with
      |none=>none|some kv'=>cond (A7 50 kv' kv) (some (.tup [v,.int .i64 e.born],M5 X r es cl)) none)
   |_=>none) none) none)
 |_,_=>none
def br(X:Sg)(m st v:U):I (U×Sg):=
 match m,st with
 |.map r,.int _ b=>(match gt X.h r with
  |some (.map es cl)=>(match Lb b es 0 with
   |none=>none|some i=>some (.junk,M5 X r (U9 es i fun e=>{ e with val:=v }) cl))
  |_=>none)
 |_,_=>none
def Bv(T:Tb)(X:Sg)(t:O)(m k:U):I (U×Sg):=
 match T.und t,m with
 |some (.map kt _),.map r=>(match toV k with
  |none=>none|some kv=>cond (o7 T 50 kt kv) (match gt X.h r with
   |some (.map es cl)=>(match BW T kt kv es 0 with
    |none=>none|some none=>some (.junk,M5 X r es cl)
    |some (some (i,_))=>some (.junk,M5 X r (Em es i) cl))
   |_=>none) none)
 |_,_=>none
def nS(T:Tb)(X:Sg)(tm:Z U)(op:Op):I (U×Sg):=
 match op with
 |.alloc e=>(match T.inf e with
  |some (_,_,z)=>(match nH z.cells.toList with
   |some zu=>cond (okL zu) (some (.ptr X.nx 0 0,newU X (.row zu e))) none|none=>none)
  |none=>none)
 |.box e x=>(match bS tm x with
  |some u=>(match uG u with
   |some cs=>cond (okL cs) (some (.ptr X.nx 0 0,newU X (.row cs e))) none|none=>none)
  |none=>none)
 |.store t a x=>(match bS tm a,bS tm x with
  |some p,some v=>WD T X t p v|_,_=>none)
 |.buildSlice t n ps=>(match wZ tm ps.toList with
  |some qs=>Nr T X t n qs|none=>none)
 |.makeSlice t l c=>(match bS tm l,bS tm c with
  |some a,some b=>Kw T X t a b|_,_=>none)
 |.makeMap _ none=>some (.map X.nx,newU X (.map [] 0))|.mapUpdate t m k x=>(match bS tm m,bS tm k,bS tm x with
  |some a,some b,some v=>Yj T X t a b v|_,_,_=>none)
 |.insert t m k x=>(match bS tm m,bS tm k,bS tm x with
  |some a,some b,some v=>Yj T X t a b v|_,_,_=>none)
 |.mapEntry t m k=>(match bS tm m,bS tm k with
  |some a,some b=>S' T X t a b|_,_=>none)
 |.entryStore _ m st x=>(match bS tm m,bS tm st,bS tm x with
  |some a,some b,some v=>br X a b v|_,_,_=>none)
 |.call c=>(match c.callee with
  |.builtin .append=>(match lP tm c.args.toList,c.argTypes.toList with
   |some [a,b],[t,xt]=>qc T X t xt a b|_,_=>none)
  |.builtin .copy=>(match lP tm c.args.toList,c.argTypes.toList with
   |some [a,b],t::_=>um T X t a b|_,_=>none)
  |.builtin .delete=>(match lP tm c.args.toList,c.argTypes.toList with
   |some [a,b],t::_=>Bv T X t a b|_,_=>none)
  |.builtin .clear=>(match lP tm c.args.toList,c.argTypes.toList with
   |some [a],t::_=>cj T X t a|_,_=>none)
  |_=>none)
 |_=>none
def bF(T:Tb)(X:Sg)(tm:Z U)(op:Op):I (U×Sg):=
 match gW T X tm op with
 |some v=>some (v,X)|none=>match oY T X tm op with
  |some v=>some (v,X)|none=>nS T X tm op
def jG(T:Tb)(tm:Z U)(op:Op):I (FuncId×Z U):=
 match op with
 |.call c=>(match c.callee with
  |.value f=>(match bS tm f with
   |some (.fn (.func g) first cap)=>(match T.fn g with
    |some fn=>cond fn.body.isSome (match lP tm c.args.toList with
     |some args=>some (g,first++args++cap)|none=>none) none
    |none=>none)
   |_=>none)
  |_=>none)
 |_=>none
end Go.Vx
namespace Go.Vx
open Go Go.Rx
mutual
def vF:(u:U)->(v:A)->toV u=some v->∀(x:Cx)(v':A),aB x u v'↔v'=v
 |.bool b,v,h,x,v'=>by simp only[toV,zA]at h;subst h;simp[aB]
 |.int k n,v,h,x,v'=>by simp only[toV,zA]at h;subst h;simp[aB]
 |.str l,v,h,x,v'=>by simp only[toV,zA]at h;subst h;simp[aB]
 |.nilp,v,h,x,v'=>by simp only[toV,zA]at h;subst h;simp[aB]
 |.nils,v,h,x,v'=>by simp only[toV,zA]at h;subst h;simp[aB]
 |.nilm,v,h,x,v'=>by simp only[toV,zA]at h;subst h;simp[aB]
 |.nilf,v,h,x,v'=>by simp only[toV,zA]at h;subst h;simp[aB]
 |.nili,v,h,x,v'=>by simp only[toV,zA]at h;subst h;simp[aB]
 |.agg l,v,h,x,v'=>by simp only[toV]at h;rcases hk:okL l with _|_;simp[hk]at h;simp only[hk,zC]at h;rcases hl:mR l with _|vs;simp[hl]at h;simp only[hl,zA]at h;subst h;have:=Ff l vs hl x;simp only[aB,hk,and_true];constructor;rintro⟨ws,rfl,h1,h2⟩;rw[(this ws).1 ⟨h1,h2⟩];rintro rfl;exact⟨vs,rfl,((this vs).2 rfl).1,((this vs).2 rfl).2⟩
 |.junk,v,h,x,v'=>by simp[toV]at h
 |.ptr _ _ _,v,h,x,v'=>by simp[toV]at h
 |.iptr _,v,h,x,v'=>by simp[toV]at h
 |.sl _ _ _ _,v,h,x,v'=>by simp[toV]at h
 |.vl _ _ _ _,v,h,x,v'=>by simp[toV]at h
 |.isl _ _,v,h,x,v'=>by simp[toV]at h
 |.map _,v,h,x,v'=>by simp[toV]at h
 |.fn _ _ _,v,h,x,v'=>by simp[toV]at h
 |.tup _,v,h,x,v'=>by simp[toV]at h
def Ff:(l:Z U)->(vs:Z A)->mR l=some vs->∀(x:Cx)(ws:Z A),aX x l ws↔ws=vs
 |[],vs,h,x,ws=>by simp only[mR,zA]at h;subst h;exact⟨fun h=>h.nil_inv,fun h=>h ▸ aX.nil x⟩
 |u::l,vs,h,x,ws=>by simp only[mR]at h;rcases hu:toV u with _|v;simp[hu]at h;rcases hl:mR l with _|pL;simp[hu,hl]at h;simp only[hu,hl,zA]at h;subst h;constructor;intro hr;obtain⟨w,ws',rfl,h1,h2⟩:=hr.inv;rw[(vF u v hu x w).1 h1,(Ff l pL hl x ws').1 h2];rintro rfl;exact aX.cons ((vF u v hu x v).2 rfl) ((Ff l pL hl x pL).2 rfl)
end
mutual
def JL:(v:A)->(u:U)->iB v=some u->plain v=true/\∀x:Cx,aB x u v
 |.bool b,u,h=>by simp only[iB,zA]at h;subst h;simp[aB,plain]
 |.int k n,u,h=>by simp only[iB,zA]at h;subst h;simp[aB,plain]
 |.string s,u,h=>by simp only[iB,zA]at h;subst h;simp[aB,plain]
 |.pointer none,u,h=>by simp only[iB,zA]at h;subst h;simp[aB,plain]
 |.slice none n c,u,h=>by simp only[iB]at h;split at h;simp only[zA]at h;subst h;simp[aB,plain];cases h
 |.map none,u,h=>by simp only[iB,zA]at h;subst h;simp[aB,plain]
 |.nilFunc,u,h=>by simp only[iB,zA]at h;subst h;simp[aB,plain]
 |.nilIface,u,h=>by simp only[iB,zA]at h;subst h;simp[aB,plain]
 |.agg ⟨l⟩,u,h=>by simp only[iB]at h;rcases hl:nH l with _|us;simp[hl]at h;simp only[hl]at h;rcases hk:okL us with _|_;simp[hk]at h;simp only[hk,zC,zA]at h;subst h;obtain⟨h1,h2⟩:=M4 l us hl;exact⟨by simp[plain,h1],fun x=>by simp only[aB];exact⟨l,rfl,(h2 x).1,(h2 x).2,hk⟩⟩
 |.float _ _,u,h=>by simp[iB]at h
 |.complex _ _ _,u,h=>by simp[iB]at h
 |.pointer (some _),u,h=>by simp[iB]at h
 |.slice (some _) _ _,u,h=>by simp[iB]at h
 |.map (some _),u,h=>by simp[iB]at h
 |.chan _,u,h=>by simp[iB]at h
 |.func _ _ _,u,h=>by simp[iB]at h
 |.iface _ _,u,h=>by simp[iB]at h
 |.tuple _,u,h=>by simp[iB]at h
def M4:(l:Z A)->(us:Z U)->nH l=some us->PX l=true/\∀x:Cx,aX x us l
 |[],us,h=>by simp only[nH,zA]at h;subst h;exact⟨by simp[PX],fun x=>aX.nil x⟩
 |v::l,us,h=>by simp only[nH]at h;rcases hv:iB v with _|u;simp[hv]at h;rcases hl:nH l with _|De;simp[hv,hl]at h;simp only[hv,hl,zA]at h;subst h;obtain⟨h1,h2⟩:=JL v u hv;obtain⟨h3,h4⟩:=M4 l De hl;exact⟨by simp[PX,h1,h3],fun x=>aX.cons (h2 x) (h4 x)⟩
end
section
variable{x:Cx}{tm:Z U}{tv:Z A}(ht:aX x tm tv)
include ht
def fI{o:Jp}{u:U}(h:bS tm o=some u):∃v,evalO tv o=some v/\aB x u v:=by
 cases o with
 |tmp t=>simp only[bS,i9]at h;obtain⟨v,h1,h2⟩:=ht.get h;exact⟨v,by simp[evalO,i9,h1],h2⟩
 |const v=>obtain⟨h1,h2⟩:=JL v u h;exact⟨v,by simp[evalO,h1],h2 x⟩
 |func f=>simp only[bS,zA]at h;subst h;exact⟨_,rfl,by simp only[aB];exact⟨[],[],rfl,by simp[c8],rfl,by simp[c8],rfl⟩⟩|global g=>simp[bS]at h
def MH{l:Z Jp}{us:Z U}(h:lP tm l=some us):∃vs,jP tv l=some vs/\aX x us vs:=by induction l generalizing us with|nil=>simp only[lP,zA]at h;subst h;exact⟨[],rfl,aX.nil x⟩|cons o l ih=>simp only[lP]at h;rcases h1:bS tm o with _|u;simp[h1]at h;rcases h2:lP tm l with _|De;simp[h1,h2]at h;simp only[h1,h2,zA]at h;subst h;obtain⟨v,e1,r1⟩:=fI ht h1;obtain⟨vs,e2,r2⟩:=ih h2;exact⟨v::vs,by simp[jP,e1,e2],aX.cons r1 r2⟩
inductive WC(x:Cx):List (Nat×U)->List (Nat×Value)->Prop
 |nil:WC x [] []
 |cons {i:Nat} {u:U} {v:Value} {l:List (Nat×U)} {m:List (Nat×Value)}:aB x u v->WC x l m->WC x ((i,u)::l) ((i,v)::m)
def fv{l:Z (Nat×Jp)}{us:Z (Nat×U)}(h:wZ tm l=some us):∃vs,FR tv l=some vs/\WC x us vs:=by induction l generalizing us with|nil=>simp only[wZ,zA]at h;subst h;exact⟨[],rfl,.nil⟩|cons o l ih=>obtain⟨i,o⟩:=o;simp only[wZ]at h;rcases h1:bS tm o with _|u;simp[h1]at h;rcases h2:wZ tm l with _|De;simp[h1,h2]at h;simp only[h1,h2,zA]at h;subst h;obtain⟨v,e1,r1⟩:=fI ht h1;obtain⟨vs,e2,r2⟩:=ih h2;exact⟨(i,v)::vs,by simp[FR,e1,e2],.cons r1 r2⟩
def ic{o:I Jp}{r:I A}(h:uF tm o=some r):oZ tv o=some r:=by rcases o with _|o;simpa[uF,oZ]using h;simp only[uF]at h;rcases h1:bS tm o with _|u;simp[h1]at h;obtain⟨v,e1,r1⟩:=fI ht h1;cases u with|int k n=>simp only[h1,zA]at h;simp only[aB]at r1;subst r1;subst h;simp[oZ,e1]|_=>simp[h1]at h
end
variable{x:Cx}
variable{u:U}
variable{v:A}
def SL{f:A->I A}{r:U}(h:g1 f u=some r)(hr:aB x u v):∃rv,f v=some rv/\aB x r rv:=by unfold g1 at h;rcases h1:toV u with _|v0;simp[h1]at h;simp only[h1]at h;rcases h2:f v0 with _|rv;simp[h2]at h;simp only[h2]at h;rw[(vF u v0 h1 x v).1 hr];exact⟨rv,h2,(JL rv r h).2 x⟩
def SK{f:A->A->I A}{a b r:U}{va vb:A}(h:g2 f a b=some r)(ha:aB x a va)(hb:aB x b vb):∃rv,f va vb=some rv/\aB x r rv:=by unfold g2 at h;rcases h1:toV a with _|v1;simp[h1]at h;rcases h2:toV b with _|v2;simp[h1,h2]at h;simp only[h1,h2]at h;rcases h3:f v1 v2 with _|rv;simp[h3]at h;simp only[h3]at h;rw[(vF a v1 h1 x va).1 ha,(vF b v2 h2 x vb).1 hb];exact⟨rv,h3,(JL rv r h).2 x⟩
def qq3(hr:aB x u v)(hn:okC u=true):v.oneCell'=true:=by
 cases u with
 |junk=>simp[okC]at hn|agg l=>simp[okC]at hn
 |tup l=>simp[okC]at hn|ptr k st off=>simp only[aB]at hr;exact hr.1
 |sl k off n c=>simp only[aB]at hr;exact hr.1|vl k st off n=>simp only[aB]at hr;exact hr.1
 |map k=>simp only[aB]at hr;exact hr.1|iptr l=>simp only[aB]at hr;obtain⟨_,_,_,_,rfl,_⟩:=hr;rfl
 |isl t l=>simp only[aB]at hr;rcases hr with⟨_,rfl |⟨_,rfl⟩⟩|⟨_,_,_,rfl,_⟩<;>rfl
 |fn f a b=>simp only[aB]at hr;obtain⟨_,_,rfl,_⟩:=hr;rfl
 |_=>simp only[aB]at hr;subst hr;rfl
variable{l:Z U}
variable{vs:Z A}
def QK(hr:aX x l vs)(hk:okL l=true):pU vs=true:=by induction l generalizing vs with|nil=>rw[hr.nil_inv];rfl|cons u l ih=>obtain⟨v,pL,rfl,h1,h2⟩:=hr.inv;simp only[okL]at hk;obtain⟨k1,k2⟩:=K1 hk;simp[pU,qq3 h1 k1,ih h2 k2]
def ie{cs:Z U}(hr:aB x u v)(h:uG u=some cs):aX x cs v.cells.toList/\okL cs=true:=by
 have one:okC u=true->cs=[u]->aX x cs v.cells.toList/\okL cs=true:=fun h1 h2=>by
  subst h2;have:=qq3 hr h1;have e:v.cells= #[v]:=by cases v<;>first |rfl |(simp[Value.oneCell']at this)
  rw[e];exact⟨aX.cons hr (aX.nil x),by simp[okL,h1]⟩
 cases u with
 |junk=>simp[uG]at h|tup l=>simp[uG]at h
 |agg l=>simp only[uG,zA]at h;subst h;simp only[aB]at hr;obtain⟨vs,rfl,h1,h2,h3⟩:=hr;exact⟨⟨h1,h2⟩,h3⟩
 |_=>simp only[uG,zA]at h;exact one rfl h.symm
def z8v(h:aB x u v):aB x (Is u) v:=by
 cases u with
 |nils=>simp only[Is,aB]at*;exact .inl ⟨trivial,.inl h⟩|isl t l=>simp only[Is,aB]at*;rcases h with h |⟨i,off,c,h1,h2,h3⟩;exact .inl h;exact .inr ⟨i,off,c,h1,(fun h=>by cases h),h3⟩
 |_=>exact h
def UK(u:U):okC (Is u)=okC u:=by cases u<;>rfl
def Yu:∀l:Z U,(oU l).length=l.length
 |[]=>rfl|u::l=>by simp[oU,Yu l]
def Dv:∀l:Z U,okL (oU l)=okL l
 |[]=>rfl|u::l=>by simp[oU,okL,UK,Dv l]
def qvc{x:Cx}:∀{l:Z U}{vs:Z A},c8 x l vs->c8 x (oU l) vs
 |[],vs,h=>by simp[oU,c8]
 |u::l,[],h=>by simp[c8]at h
 |u::l,v::vs,h=>by simp only[oU,c8]at*;exact⟨z8v h.1,qvc h.2⟩
def Ly(h:aX x l vs):aX x (oU l) vs:=⟨qvc h.1,by rw[Yu];exact h.2⟩
def z8u{X:Sg}{k:Nat}(h:aX x l vs):aX x (DN X k l) vs:=by unfold DN;split;exact Ly h;exact h
def UL(X:Sg)(k:Nat)(l:Z U):okL (DN X k l)=okL l:=by unfold DN;split;exact Dv l;rfl
structure Out(x y:Cx):Prop where
 h:i8 y
 mo:Mo x.X.nx x y
 fr:∀F,Fr F x->Fr F y
def nc:E4:=fun _ _ _=>none
def o4(T:Tb)(x:Cx)(tv:Z A)(op:Op)(u:U)(X':Sg):Prop:=∃v y,xG T nc tv x.s op=some (v,y.s)/\y.X=X'/\aB y u v/\Out x y
def Mo.refl(n:Nat)(x:Cx):Mo n x x:=⟨fun k _ h2=>⟨h2,fun b hb=>⟨b,hb,zF _,fun _=>⟨rfl,fun l e sz st h=>⟨l,h⟩⟩⟩⟩,fun _ _ _ h=>h⟩
def Out.refl{x:Cx}(h:i8 x):Out x x:=⟨h,Mo.refl _ _,fun _ h=>h⟩
variable{T:Tb}
variable{tv:Z A}
variable{op:Op}
def o4.same(hx:i8 x)(h:xG T nc tv x.s op=some (v,x.s))(hr:aB x u v):o4 T x tv op u x.X:=⟨v,x,h,rfl,hr,Out.refl hx⟩
variable{call:E4}
variable{s:S}
def z3g(h:gT T tv op=some v):xG T call tv s op=some (v,s):=by simp[xG,h]
def Mv(h0:gT T tv op=none)(h:mL T tv s op=some v):xG T call tv s op=some (v,s):=by simp[xG,h,h0]
def qub{r:A×S}(h0:gT T tv op=none)(h1:mL T tv s op=none)(h:qS T tv s op=some r):xG T call tv s op=some r:=by simp[xG,h,h0,h1]
def bump(x:Cx):Cx:=⟨x.Y,x.X,⟨x.s.h,x.s.nx+1⟩⟩
def ad(n:Nat)(x:Cx):Mo n x (bump x):=⟨fun k _ h2=>⟨h2,fun b hb=>⟨b,hb,zF _,fun _=>⟨rfl,fun l e sz st h=>⟨l,h⟩⟩⟩⟩,fun _ _ _ h=>h⟩
def dw(h:aB x u v):aB (bump x) u v:=(ad x.X.nx x).ke u v (aB.bel u v h) h
def TQ(h:aX x l vs):aX (bump x) l vs:=(ad x.X.nx x).ke.E h.bel h
def z1v(h:i8 x):Out x (bump x):=by
 refine⟨⟨fun k b hb=>?_,h.inj,fun i b hb=>Nat.lt_succ_of_lt (h.bd i b hb)⟩,ad _ _,fun F J=>J⟩;obtain⟨h1,h2⟩:=h.ok k b hb;refine⟨h1,?_⟩;cases b with
 |row l e=>obtain⟨k1,i,l',e1,e2,e3⟩:=h2;exact⟨k1,i,l',e1,e2,TQ e3⟩
 |vec l e sz st=>obtain⟨k1,k2,h3⟩:=h2;refine⟨k1,k2,?_⟩;rcases h3 with h3 |⟨i,l',e1,e2,e3⟩;exact .inl h3;exact .inr ⟨i,l',e1,e2,TQ e3⟩
 |map es cl=>obtain⟨i,es',e1,e2,e3⟩:=h2;refine⟨i,es',e1,e2,e3.1,fun j e he=>?_⟩;obtain⟨v,q1,q2,q3,q4⟩:=e3.2 j e he;exact⟨v,q1,dw q2,dw q3,q4⟩
end Go.Vx
namespace Go.Vx
open Go Go.Rx
variable{l:Z A}
variable{n:Nat}
def z4e(h:n<=l.length):FN l n=some (l.take n):=by
 induction l generalizing n with
 |nil=>simp at h;subst h;simp[FN]|cons a l ih=>cases n with
  |zero=>simp[FN]|succ n=>simp[FN,ih (by simpa using h)]
variable{off:Nat}
def Lh(h:off+n<=l.length):u9 l off n=some ((l.drop off).take n):=z4e (by simp;omega)
variable{vs:Z A}
def z85(h:vs.length<=l.length):DT l vs=some (vs++l.drop vs.length):=by
 induction vs generalizing l with
 |nil=>simp[DT]|cons v vs ih=>cases l with
  |nil=>simp at h|cons a l=>simp[DT,ih (by simpa using h)]
def z87(h:off+vs.length<=l.length):qR l off vs=some (l.take off++(vs++l.drop (off+vs.length))):=by
 induction l generalizing off with
 |nil=>simp at h;obtain⟨rfl,rfl⟩:=h;simp[qR,DT]
 |cons a l ih=>cases off with
  |zero=>simp only[qR,Nat.zero_add]at*;rw[z85 h];simp|succ off=>simp[qR,ih (off:=off) (by simp at h;omega),Nat.succ_add]
variable{l:Z U}
def QC(h:okL l=true)(n:Nat):okL (l.take n)=true:=(JQ _).2 fun u hu=>(JQ l).1 h u (List.mem_of_mem_take hu)
def EA(h:okL l=true)(n:Nat):okL (l.drop n)=true:=(JQ _).2 fun u hu=>(JQ l).1 h u (List.mem_of_mem_drop hu)
def MJ{a b:Z U}(h:okL a=true)(h':okL b=true):okL (a++b)=true:=(JQ _).2 fun u hu=>(yD.1 hu).elim ((JQ a).1 h u) ((JQ b).1 h' u)
variable{r:Z U}
def QJ(h:iZ l off n=some r):off+n<=l.length/\r=(l.drop off).take n:=by unfold iZ at h;split at h;simp at h;exact⟨by assumption,h.symm⟩;cases h
def qqa{vs:Z U}(h:o6 l off vs=some r):off+vs.length<=l.length/\r=l.take off++(vs++l.drop (off+vs.length)):=by unfold o6 at h;split at h;simp at h;exact⟨by assumption,h.symm⟩;cases h
variable{x:Cx}
def Yz{vs:Z U}{lv vv:Z A}(h:o6 l off vs=some r)(hl:aX x l lv)(hv:aX x vs vv):∃rv,qR lv off vv=some rv/\aX x r rv/\(okL l=true->okL vs=true->okL r=true):=by obtain⟨h1,rfl⟩:=qqa h;refine⟨_,z87 (by rw[<-hl.2,<-hv.2];exact h1),?_,fun a b=>MJ (QC a _) (MJ b (EA a _))⟩;rw[<-hv.2];exact(hl.take _).append (hv.append (hl.drop _))
def z05{lv:Z A}(h:iZ l off n=some r)(hl:aX x l lv):u9 lv off n=some ((lv.drop off).take n)/\aX x r ((lv.drop off).take n):=by obtain⟨h1,rfl⟩:=QJ h;exact⟨Lh (by rw[<-hl.2];exact h1),(hl.drop _).take _⟩
def Nf{x:Cx}{place:Nat->I (Nat×Nat)}:∀{ps:Z (Nat×U)}{pv:Z (Nat×A)}{cells r:Z U}{cv:Z A},WC x ps pv->aX x cells cv->pT place cells ps=some r->∃rv,BX place cv pv=some rv/\aX x r rv
 |_,_,cells,r,cv,.nil,hc,h=>by simp only[pT,zA]at h;subst h;exact⟨cv,rfl,hc⟩
 |_,_,cells,r,cv,.cons (i:=i) (u:=u) (v:=v) (l:=l) (m:=m) hu hp,hc,h=>by simp only[pT]at h;rcases h1:place i with _|q;simp[h1]at h;obtain⟨off,size⟩:=q;simp only[h1]at h;rcases h2:uG u with _|cs;simp[h2]at h;simp only[h2]at h;obtain⟨c1,c2⟩:=ie hu h2;rcases h3:Nat.beq cs.length size with _|_;simp[h3]at h;simp only[h3,zC]at h;rcases h4:o6 cells off cs with _|c;simp[h4]at h;simp only[h4]at h;obtain⟨rv,q1,q2,_⟩:=Yz h4 hc c1;obtain⟨rv',q3,q4⟩:=Nf hp q2 h;exact⟨rv',by simp only[BX,h1];rw[<-c1.2,h3];simp only[zC,q1,q3],q4⟩
variable{T:Tb}
variable{t:O}
variable{u:U}
def qul{cs:Z U}(h:Xl T t cs off=some u)(hc:aX x cs vs)(hk:okL cs=true):∃v,DY T t vs off=some v/\aB x u v:=by
 unfold Xl at h;unfold DY;rcases hd:T.und t with _|d;simp[hd]at h;simp only[hd]at h ⊢;cases ha:p9 d with
 |true=>simp only[ha,zC]at h ⊢;rcases hs:c6 T t with _|n;simp[hs]at h;simp only[hs,zA]at h ⊢;subst h;refine⟨_,rfl,?_⟩;simp only[aB];exact⟨_,rfl,((hc.drop off).take n).1,((hc.drop off).take n).2,QC (EA hk _) _⟩
 |false=>simp only[ha,zD,i9]at h ⊢;exact hc.get h
def qx7{ps:Z (Nat×U)}{pv:Z (Nat×A)}(h:En T t ps=some u)(hp:WC x ps pv):∃v,Lu T t pv=some v/\aB x u v:=by
 unfold En at h;unfold Lu;rcases hi:T.inf t with _|q;simp[hi]at h;obtain⟨a,b,z⟩:=q;simp only[hi]at h ⊢;rcases hz:nH z.cells.toList with _|zu;simp[hz]at h;simp only[hz]at h;have oN:=(M4 _ _ hz).2 x;rcases hd:T.und t with _|d;simp[hd]at h;cases d with
 |struct fs=>simp only[hd]at h ⊢;rcases hs:FU T fs.toList with _|_;simp[hs]at h;simp only[hs,zC]at h ⊢;rcases hf:pT (JT T fs.toList) zu ps with _|cs;simp[hf]at h;simp only[hf]at h;rcases hk:okL cs with _|_;simp[hk]at h;simp only[hk,zC,zA]at h;subst h;obtain⟨rv,q1,q2⟩:=Nf hp oN hf;exact⟨.agg rv.toArray,by simp[q1],by simp only[aB];exact⟨rv,rfl,q2.1,q2.2,hk⟩⟩
 |array n e=>simp only[hd]at h ⊢;rcases hs:c6 T e with _|sz;simp[hs]at h;simp only[hs]at h ⊢;rcases hf:pT (fun i=>some (i*sz,sz)) zu ps with _|cs;simp[hf]at h;simp only[hf]at h;rcases hk:okL cs with _|_;simp[hk]at h;simp only[hk,zC,zA]at h;subst h;obtain⟨rv,q1,q2⟩:=Nf hp oN hf;exact⟨.agg rv.toArray,by simp[q1],by simp only[aB];exact⟨rv,rfl,q2.1,q2.2,hk⟩⟩
 |_=>simp[hd]at h
variable{X:Sg}
variable{k:Nat}
def Ns{st:Nat}(h:live X k st=true):∃b,gt X.h k=some b/\b.st=st:=by unfold live at h;rcases hb:gt X.h k with _|b;simp[hb]at h;simp only[hb,beq_eq,decide_eq_true_eq]at h;exact⟨b,rfl,h⟩
variable{v:A}
def WU{st:Nat}(hl:live x.X k st=true)(hr:aB x (.ptr k st off) v):∃i,x.Y k=some i/\v=.pointer (some ⟨i,off,none⟩):=by obtain⟨b,h1,h2⟩:=Ns hl;simp only[aB]at hr;exact((hr.2.2 b h1).2 h2.symm)
def M6{c:Nat}(hl:live x.X k 0=true)(hr:aB x (.sl k off n c) v):∃i,x.Y k=some i/\v=.slice (some ⟨i,off,none⟩) n c/\c<bP/\n<=c:=by obtain⟨b,h1,h2⟩:=Ns hl;simp only[aB]at hr;exact((hr.2.2 b h1).2 h2.symm)
def Zs(hl:live x.X k 0=true)(hr:aB x (.map k) v):∃i,x.Y k=some i/\v=.map (some i):=by obtain⟨b,h1,h2⟩:=Ns hl;simp only[aB]at hr;exact((hr.2.2 b h1).2 h2.symm)
def WQ{st:Nat}(hl:live x.X k st=true)(hr:aB x (.vl k st off n) v):∃l e sz,gt x.X.h k=some (.vec l e sz st)/\FL off n v sz (x.Y k):=by obtain⟨b,h1,h2⟩:=Ns hl;simp only[aB]at hr;obtain⟨l,e,sz,rfl,h3⟩:=(hr.2.2 b h1).2 h2.symm;exact⟨l,e,sz,h1,h3⟩
def qq{st:Nat}{r:Z U×O×Nat}(h:mK X k st=some r):gt X.h k=some (.vec r.1 r.2.1 r.2.2 st)/\live X k st=true:=by
 unfold mK at h;rcases hb:gt X.h k with _|b;simp[hb]at h;cases b with
 |vec l e sz bG=>simp only[hb,beq_eq]at h;by_cases c9:bG=st;subst c9;simp at h;subst h;exact⟨rfl,by simp[live,hb,B.st]⟩;simp[c9]at h|_=>simp[hb]at h
def im(h:rowOf X k=some l):∃e,gt X.h k=some (.row l e)/\live X k 0=true:=by
 unfold rowOf at h;rcases hb:gt X.h k with _|b;simp[hb]at h;cases b with
 |row l' e=>simp[hb]at h;subst h;exact⟨e,rfl,by simp[live,hb,B.st]⟩|_=>simp[hb]at h
def uy{sz:Nat}{o:I Nat}(h:FL off n v sz o):∃a c,v=.slice a n c:=by
 cases o with
 |none=>obtain⟨_,rfl,o,rfl,_⟩:=h;exact⟨o,0,rfl⟩
 |some i=>rcases h with⟨_,rfl,a,c,rfl,_⟩|rfl<;>exact⟨_,_,rfl⟩
def an(hx:i8 x){st:Nat}(hl:live x.X k st=true)(hr:aB x (.vl k st off n) v)(hn:0<n):
  ∃i l e sz l',gt x.X.h k=some (.vec l e sz st)/\x.Y k=some i/\v=.slice (some ⟨i,off*sz,none⟩) n (bP+off)/\lk x.s.h i=some (.inl (l',e,sz+2))/\aX x l l'/\0<sz/\okL l=true:=by obtain⟨l,e,sz,h1,h2⟩:=WQ hl hr;obtain⟨_,k1,k2,h3⟩:=hx.ok k _ h1;rcases h3 with⟨_,h3⟩|⟨i,l',e1,e2,e3⟩;rw[h3]at h2;obtain⟨_,rfl,_⟩:=h2;omega;rw[e1]at h2;rcases h2 with⟨_,rfl,_⟩|h2;omega;exact⟨i,l,e,sz,l',h1,e1,h2,e2,e3,k2,k1⟩
def qv7(hx:i8 x)(hr:aB x u v)(h:fZ x.X u=k)(hk:k≠0):
  (k=1/\∃a,v=.pointer (some a))\/(k=2/\∃a n c,v=.slice (some a) n c)\/(k=3/\∃r,v=.map (some r)):=by
 cases u with
 |ptr k' st off=>simp only[fZ]at h;rcases hl:live x.X k' st with _|_;simp[hl]at h;omega;simp[hl]at h;obtain⟨i,_,rfl⟩:=WU hl hr;exact .inl ⟨h.symm,_,rfl⟩
 |iptr l=>simp only[fZ]at h;simp only[aB]at hr;obtain⟨i,off,_,_,rfl,_⟩:=hr;exact .inl ⟨h.symm,_,rfl⟩
 |sl k' off n c=>simp only[fZ]at h;rcases hl:live x.X k' 0 with _|_;simp[hl]at h;omega;simp[hl]at h;obtain⟨i,_,rfl,_⟩:=M6 hl hr;exact .inr (.inl ⟨h.symm,_,_,_,rfl⟩)
 |vl k' st off n=>cases n with|zero=>simp[fZ]at h;omega|succ n=>simp only[fZ]at h;rcases hl:live x.X k' st with _|_;simp[hl]at h;omega;simp[hl]at h;obtain⟨i,l,e,sz,l',_,_,rfl,_⟩:=an hx hl hr (Nat.succ_pos _);exact .inr (.inl ⟨h.symm,_,_,_,rfl⟩)
 |isl t l=>rcases l with _|⟨c,l⟩;simp[fZ]at h;omega;simp only[fZ]at h;simp only[aB]at hr;rcases hr with⟨hr,_⟩|⟨i,off,c',rfl,_⟩;cases hr;exact .inr (.inl ⟨h.symm,_,_,_,rfl⟩)
 |map k'=>simp only[fZ]at h;rcases hl:live x.X k' 0 with _|_;simp[hl]at h;omega;simp[hl]at h;obtain⟨i,_,rfl⟩:=Zs hl hr;exact .inr (.inr ⟨h.symm,_,rfl⟩)
 |_=>simp[fZ]at h;omega
def qmi(hr:aB x u v)(h:JR u=k)(hk:k≠0):(k=1/\v=.pointer none)\/(k=2/\v=.slice none 0 0)\/(k=3/\v=.map none):=by
 cases u with
 |nilp=>simp only[JR]at h;simp only[aB]at hr;exact .inl ⟨h.symm,hr⟩|nils=>simp only[JR]at h;simp only[aB]at hr;exact .inr (.inl ⟨h.symm,hr⟩)
 |nilm=>simp only[JR]at h;simp only[aB]at hr;exact .inr (.inr ⟨h.symm,hr⟩)|_=>simp[JR]at h;omega
def qys(hx:i8 x){op:BinOp}{a b:U}{va vb:A}(h:Dz T x.X op t a b=some u)(ha:aB x a va)(hb:aB x b vb):∃v,sJ T op t va vb=some v/\aB x u v:=by
 unfold Dz at h;simp only[beq_eq]at h;by_cases h0:wU T t=0;simp[h0]at h;simp only[h0,yB,zD]at h;have key:DC op=some u->
   (wU T t=1/\((∃p,va=.pointer (some p))/\vb=.pointer none\/va=.pointer none/\∃p,vb=.pointer (some p)))\/
   (wU T t=2/\((∃p n c,va=.slice (some p) n c)/\vb=.slice none 0 0\/va=.slice none 0 0/\∃p n c,vb=.slice (some p) n c))\/
   (wU T t=3/\((∃p,va=.map (some p))/\vb=.map none\/va=.map none/\∃p,vb=.map (some p)))->∃v,sJ T op t va vb=some v/\aB x u v:=by
  intro pF hk;have CQ:∀{k:Nat},wU T t=k->k≠0->(k=1->∃e,T.und t=some (.pointer e))/\(k=2->∃e,T.und t=some (.slice e))/\(k=3->∃e e',T.und t=some (.map e e')):=by intro k hk CX;unfold wU at hk;rcases hd:T.und t with _|d;simp[hd]at hk;omega;cases d<;>simp[hd]at hk<;>subst hk<;>simp at CX ⊢
  rcases hk with⟨hk,hv⟩|⟨hk,hv⟩|⟨hk,hv⟩;obtain⟨e,he⟩:=(CQ hk (by omega)).1 rfl;rcases hv with⟨⟨p,rfl⟩,rfl⟩|⟨rfl,p,rfl⟩<;>cases op<;>simp[DC]at pF<;>subst pF<;>simp[sJ,AF,eqv,he,aB];obtain⟨e,he⟩:=(CQ hk (by omega)).2.1 rfl;rcases hv with⟨⟨p,n,c,rfl⟩,rfl⟩|⟨rfl,p,n,c,rfl⟩<;>cases op<;>simp[DC]at pF<;>subst pF<;>simp[sJ,AF,eqv,he,aB];obtain⟨e,e',he⟩:=(CQ hk (by omega)).2.2 rfl;rcases hv with⟨⟨p,rfl⟩,rfl⟩|⟨rfl,p,rfl⟩<;>cases op<;>simp[DC]at pF<;>subst pF<;>simp[sJ,AF,eqv,he,aB]
 by_cases h1:fZ x.X a=wU T t;by_cases h2:JR b=wU T t;simp only[h1,h2,yC,zC]at h;refine key h ?_;rcases qv7 hx ha h1 h0 with⟨e1,q⟩|⟨e1,q⟩|⟨e1,q⟩<;>rcases qmi hb h2 h0 with⟨e2,q'⟩|⟨e2,q'⟩|⟨e2,q'⟩<;>first |omega |skip
 exact .inl ⟨e1,.inl ⟨q,q'⟩⟩;exact .inr (.inl ⟨e1,.inl ⟨q,q'⟩⟩);exact .inr (.inr ⟨e1,.inl ⟨q,q'⟩⟩);simp[h1,h2]at h;simp only[h1,yB,zD]at h;by_cases h2:JR a=wU T t;by_cases h3:fZ x.X b=wU T t;simp only[h2,h3,yC,zC]at h;refine key h ?_;rcases qv7 hx hb h3 h0 with⟨e1,q⟩|⟨e1,q⟩|⟨e1,q⟩<;>rcases qmi ha h2 h0 with⟨e2,q'⟩|⟨e2,q'⟩|⟨e2,q'⟩<;>first |omega |skip
 exact .inl ⟨e1,.inr ⟨q',q⟩⟩;exact .inr (.inl ⟨e1,.inr ⟨q',q⟩⟩);exact .inr (.inr ⟨e1,.inr ⟨q',q⟩⟩);simp[h2,h3]at h;simp[h2]at h
def z6j(hx:i8 x){op:BinOp}{a b:U}{va vb:A}(h:IF T x.X op t a b=some u)(ha:aB x a va)(hb:aB x b vb):∃v,sJ T op t va vb=some v/\aB x u v:=by unfold IF at h;rcases h1:g2 (sJ T op t) a b with _|r;simp only[h1]at h;exact qys hx h ha hb;simp only[h1,zA]at h;subst h;exact SK h1 ha hb
variable{v:A}
variable{n:Nat}
def C6{y y':Nat}(h:iA v y=some n)(hy:y<=y'):iA v y'=some n/\n<=y:=by
 unfold iA at*;cases v with
 |int k i=>
  simp only at*;rcases h1:oM i (y+1)with _|_;simp[h1]at h;simp only[h1,zC,zA]at h;obtain⟨a,b⟩:=WV h1;have:oM i (y'+1)=true:=by
   unfold oM;cases i with
   |ofNat k=>simp at b ⊢;omega|negSucc k=>omega
  exact⟨by simp[this,h],by omega⟩
 |_=>simp at h
variable{c:Nat}
variable{lo:I A}
variable{hi:I A}
variable{l:Nat}
variable{h:Nat}
variable{m:Nat}
def QF(hb:fD n n lo hi none=some (l,h,m))(hc:n<=c):fD n c lo hi none=some (l,h,c)/\l<=h/\h<=n/\m=n:=by
 unfold fD at*;simp only at*;cases hi with
 |none=>
  simp only at*;cases lo with
  |none=>simp only[zA,zB]at hb ⊢;obtain⟨rfl,rfl,rfl⟩:=hb;simp
  |some v=>simp only at*;rcases h1:iA v n with _|k;simp[h1]at hb;simp only[h1,zA,zB]at hb ⊢;obtain⟨rfl,rfl,rfl⟩:=hb;simp[(C6 h1 (zF _)).2]
 |some w=>
  simp only at*;rcases h2:iA w n with _|k2;simp[h2]at hb;obtain⟨e2,e3⟩:=C6 h2 hc;simp only[h2,e2]at hb ⊢;cases lo with
  |none=>simp only[zA,zB]at hb ⊢;obtain⟨rfl,rfl,rfl⟩:=hb;simp[e3]
  |some v=>simp only at*;rcases h1:iA v k2 with _|k;simp[h1]at hb;simp only[h1,zA,zB]at hb ⊢;obtain⟨rfl,rfl,rfl⟩:=hb;simp[(C6 h1 (zF _)).2,e3]
def Ni{vm:A}(hb:fD n n lo hi (some vm)=some (l,h,m)):iA vm n=some m/\l<=h/\h<=m/\m<=n/\∀c,m<=c->fD n c lo hi (some vm)=some (l,h,m):=by
 unfold fD at*;simp only at*;rcases h0:iA vm n with _|k0;simp[h0]at hb;simp only[h0]at hb;have e0:=(C6 h0 (zF _)).2;have grow:∀c,k0<=c->iA vm c=some k0:=fun c hc=>by
  unfold iA at*;cases vm with
  |int k i=>
   simp only at*;rcases h1:oM i (n+1)with _|_;simp[h1]at h0;simp only[h1,zC,zA]at h0;obtain⟨a,b⟩:=WV h1;have:oM i (c+1)=true:=by
    unfold oM;cases i with
    |ofNat k=>simp at h0 ⊢;omega|negSucc k=>omega
   simp[this,h0]
  |_=>simp at h0
 rcases hi with _|w;simp at hb;simp only at*;rcases h2:iA w k0 with _|k2;simp[h2]at hb;have e3:=(C6 h2 (zF _)).2;simp only[h2]at hb;cases lo with
 |none=>simp only[zA,zB]at hb;obtain⟨rfl,rfl,rfl⟩:=hb;exact⟨rfl,by omega,e3,e0,fun c hc=>by simp[grow c hc,h2]⟩
 |some v=>simp only at*;rcases h1:iA v k2 with _|k;simp[h1]at hb;simp only[h1,zA,zB]at hb;obtain⟨rfl,rfl,rfl⟩:=hb;exact⟨rfl,(C6 h1 (zF _)).2,e3,e0,fun c hc=>by simp[grow c hc,h2,h1]⟩
variable{mx:I A}
def z1s(hb:fD n c lo hi mx=some (l,h,m)):l<=h/\m<=c:=by
 unfold fD at hb;cases mx with
 |none=>
  simp only at hb;cases hi with
  |none=>simp only at hb;rcases lo with _|v;simp only[zA,zB]at hb;omega;simp only at hb;rcases h1:iA v n with _|k;simp[h1]at hb;simp only[h1,zA,zB]at hb;have:=(C6 h1 (zF _)).2;omega
  |some w=>simp only at hb;rcases h2:iA w c with _|k2;simp[h2]at hb;simp only[h2]at hb;rcases lo with _|v;simp only[zA,zB]at hb;omega;simp only at hb;rcases h1:iA v k2 with _|k;simp[h1]at hb;simp only[h1,zA,zB]at hb;have:=(C6 h1 (zF _)).2;omega
 |some vm=>simp only at hb;rcases h0:iA vm c with _|k0;simp[h0]at hb;have e0:=(C6 h0 (zF _)).2;simp only[h0]at hb;rcases hi with _|w;simp at hb;simp only at hb;rcases h2:iA w k0 with _|k2;simp[h2]at hb;simp only[h2]at hb;rcases lo with _|v;simp only[zA,zB]at hb;omega;simp only at hb;rcases h1:iA v k2 with _|k;simp[h1]at hb;simp only[h1,zA,zB]at hb;have:=(C6 h1 (zF _)).2;omega
def z1t(hb:fD n c lo hi mx=some (l,h,m))(hn:n<=c):h<=m:=by
 unfold fD at hb;cases mx with
 |none=>
  simp only at hb;cases hi with
  |none=>simp only at hb;rcases lo with _|v;simp only[zA,zB]at hb;omega;simp only at hb;rcases h1:iA v n with _|k;simp[h1]at hb;simp only[h1,zA,zB]at hb;omega
  |some w=>simp only at hb;rcases h2:iA w c with _|k2;simp[h2]at hb;have:=(C6 h2 (zF _)).2;simp only[h2]at hb;rcases lo with _|v;simp only[zA,zB]at hb;omega;simp only at hb;rcases h1:iA v k2 with _|k;simp[h1]at hb;simp only[h1,zA,zB]at hb;omega
 |some vm=>simp only at hb;rcases h0:iA vm c with _|k0;simp[h0]at hb;simp only[h0]at hb;rcases hi with _|w;simp at hb;simp only at hb;rcases h2:iA w k0 with _|k2;simp[h2]at hb;have:=(C6 h2 (zF _)).2;simp only[h2]at hb;rcases lo with _|v;simp only[zA,zB]at hb;omega;simp only at hb;rcases h1:iA v k2 with _|k;simp[h1]at hb;simp only[h1,zA,zB]at hb;omega
def Zp{x:Cx}{sz:Nat}:∀{l:Z (Z U)}{vs:Z A},gO x sz l vs->∀(i:Nat)(c:Z U),l[i]? = some c->c.length=sz/\okL c=true/\c8 x c (vs.drop (i*sz))
 |[],vs,h,i,c,hc=>by simp at hc
 |d::l,vs,h,i,c,hc=>by
  simp only[gO]at h;cases i with
  |zero=>simp at hc;subst hc;exact⟨h.1,h.2.1,by simpa using h.2.2.1⟩|succ i=>simp at hc;have:=Zp h.2.2.2 i c hc;rw[List.drop_drop]at this;rw[Nat.succ_mul,Nat.add_comm];exact this
def qzw{x:Cx}{sz:Nat}:∀{l:Z (Z U)}{vs:Z A},(∀(i:Nat)(c:Z U),l[i]? = some c->c.length=sz/\okL c=true/\c8 x c (vs.drop (i*sz)))->gO x sz l vs
 |[],vs,h=>by simp[gO]
 |d::l,vs,h=>by simp only[gO];have h0:=h 0 d rfl;refine⟨h0.1,h0.2.1,by simpa using h0.2.2,qzw fun i c hc=>?_⟩;have:=h (i+1) c (by simpa using hc);rw[List.drop_drop];rw[Nat.succ_mul,Nat.add_comm]at this;exact this
def z2g{v11:Type}(l:Z v11)(a h i:Nat):(o8 l a h)[i]? = if a+i<h then l[a+i]? else none:=by unfold o8;rw[List.getElem?_drop,List.getElem?_take]
variable{a:Nat}
def qtf{v11:Type}{l:Z v11}(hh:h<=l.length):(o8 l a h).length=h-a:=by simp[o8];omega
variable{x:Cx}
variable{sz:Nat}
def z3z{l:Z (Z U)}{vs:Z A}(hr:gO x sz l vs):gO x sz (o8 l a h) (vs.drop (a*sz)):=by refine qzw fun i c hc=>?_;rw[z2g]at hc;split at hc;have:=Zp hr _ _ hc;rw[List.drop_drop];rw[Nat.add_mul]at this;exact this;cases hc
def z4n{l:Z (Z U)}(h:(l.all fun c=>Nat.beq c.length sz)=true):∀c∈l,c.length=sz:=fun c hc=>by
 have:=List.all_eq_true.1 h c hc;simpa[beq_eq]using this
def qzx{gS:Nat}{l:Z (Z U)}{vs:Z A}(hr:gO x sz l vs)(cT:l≠[])(h:(l.all fun c=>Nat.beq c.length gS)=true):sz=gS:=by rcases l with _|⟨c,l⟩;exact absurd rfl cT;rw[<-(Zp hr 0 c rfl).1];exact z4n h c (by simp)
def Zo{x:Cx}{sz:Nat}:∀{l:Z (Z U)}{vs:Z A},gO x sz l vs->l.length*sz<=vs.length
 |[],vs,h=>by simp
 |d::l,vs,h=>by simp only[gO]at h;have h1:=c8.len h.2.2.1;have h2:=Zo h.2.2.2;rw[List.length_drop]at h2;rw[zO,Nat.succ_mul];omega
def qqo{x:Cx}{sz:Nat}:∀{l:Z (Z U)}{vs:Z A},gO x sz l vs->aX x l.flatten (vs.take (l.length*sz))/\okL l.flatten=true
 |[],vs,h=>by simpa[okL]using aX.nil x
 |d::l,vs,h=>by
  have aN:=Zo h;simp only[gO]at h;obtain⟨h1,h2,h3,h4⟩:=h;obtain⟨g1,g2⟩:=qqo h4;refine⟨?_,by simpa using MJ h2 g2⟩;have e:vs.take ((d::l).length*sz)=vs.take d.length++(vs.drop sz).take (l.length*sz):=by rw[zO,Nat.succ_mul,Nat.add_comm,List.take_add,h1]
  rw[e,List.flatten_cons];exact h3.takeE.append g1
def qt5(T:Tb)(x:Cx)(t:O)(u:U)(va:A)(lo hi mx:I A):Prop :=
 (∃v,mN T t va lo hi mx=some v/\aB x u v)\/(mN T t va lo hi mx=none/\∃v,E5 T x.s t va lo hi mx=some v/\aB x u v)\/ (mN T t va lo hi mx=none/\E5 T x.s t va lo hi mx=none/\∃v,Dx T x.s t va lo hi mx=some (v,(bump x).s)/\aB (bump x) u v)
def oL{b:Nat}(h:a<b):Nat.blt a b=true:=Nat.ble_eq_true_of_le h
def JU{b:Nat}(h:¬ a<b):Nat.blt a b=false:=by rcases hb:Nat.blt a b with _|_;rfl;exact absurd (G1 hb) h
variable{T:Tb}
variable{t:O}
variable{e:O}
variable{i:Nat}
variable{off:Nat}
variable{row:Z A}
def qkz(hd:T.und t=some (.slice e))(hs:c6 T e=some sz)(eA:0<sz){d:Nat}(hn:0<n)(dO:off=d*sz)(gH:BZ x.s i sz=some row)
  (aN:off+n*sz<=row.length) (hb:fD n n lo hi none=some (l,h,m)):
  let va:=Value.slice (some ⟨i,off,none⟩) n (bP+d)
  mN T t va lo hi none=none/\(if l<h\/l=0 then E5 T x.s t va lo hi none=some (.slice (some ⟨i,(d+l)*sz,none⟩) (h-l) (bP+(d+l)))
   else E5 T x.s t va lo hi none=none/\Dx T x.s t va lo hi none=some (.slice (some ⟨x.s.nx,0,none⟩) 0 bP,(bump x).s)):=by
 have hc:Nat.blt (bP+d) bP=false:=JU (by omega);obtain⟨n',rfl⟩:∃q,n=q+1:=⟨n-1,by omega⟩;have B1:bI (bP+d)=d:=by simp[bI]
 have Au:n'+1<=(row.length-off)/sz:=by rw[Nat.le_div_iff_mul_le eA];omega
 obtain⟨b1,b2,b3,_⟩:=QF hb Au;have HJ:Nat.ble (off+h*sz) row.length=true:=Nat.ble_eq_true_of_le (by have:h*sz<=(n'+1)*sz:=Nat.mul_le_mul_right _ b3;omega);refine⟨by simp[mN,hd,hc,emptyS],?_⟩;have rX:Nat.beq off (d*sz)=true:=by simp[dO]
 have eX:Nat.blt 0 sz=true:=oL eA;cases l with
 |zero=>simp only[or_true,if_true];simp only[E5,hd,hc,zD,hs,gH,B1,rX,zC,eX,b1,HJ];simp[dO]|succ l=>
  by_cases aH:l+1<h;simp only[aH,true_or,if_true];simp only[E5,hd,hc,zD,hs,gH,B1,rX,zC,eX,b1,HJ,oL aH];simp[dO,Nat.add_mul,Nat.add_assoc];have:¬ (l+1<h\/l+1=0):=by omega
  simp only[this,if_false];simp only[E5,Dx,hd,hc,zD,hs,gH,B1,rX,zC,eX,b1,HJ,JU aH];simp[bump]
def qoc(hd:T.und t=some (.slice e))(hs:c6 T e=some sz)(eA:0<sz){d:Nat}(hn:0<n)(dO:off=d*sz)(gH:BZ x.s i sz=some row)
  (aN:off+n*sz<=row.length) {vm:A} (hb:fD n n lo hi (some vm)=some (l,h,m)) (hm:m<bP):
  let va:=Value.slice (some ⟨i,off,none⟩) n (bP+d)
  mN T t va lo hi (some vm)=none/\E5 T x.s t va lo hi (some vm)=some (.slice (some (cond (Nat.beq m l) ⟨i,off,none⟩ ⟨i,off+l*sz,none⟩)) (h-l) (m-l)):=by
 have hc:Nat.blt (bP+d) bP=false:=JU (by omega);obtain⟨n',rfl⟩:∃q,n=q+1:=⟨n-1,by omega⟩;have B1:bI (bP+d)=d:=by simp[bI]
 have Au:n'+1<=(row.length-off)/sz:=by rw[Nat.le_div_iff_mul_le eA];omega
 obtain⟨b0,b1,b2,b3,b4⟩:=Ni hb;have hb0:=(C6 b0 Au).1;have HJ:Nat.ble (off+m*sz) row.length=true:=Nat.ble_eq_true_of_le (by have:m*sz<=(n'+1)*sz:=Nat.mul_le_mul_right _ b3;omega);refine⟨by simp[mN,hd,hc,emptyS],?_⟩;have rX:Nat.beq off (d*sz)=true:=by simp[dO]
 have eX:Nat.blt 0 sz=true:=oL eA;simp only[E5,hd,hc,zD,hs,gH,B1,rX,zC,eX,hb0,HJ,b4 m (zF _),oL hm]
def qvm{s:S}{l:Z A}(h:lk s.h i=some (.inl (l,e,sz+2))):BZ s i sz=some l:=by simp[BZ,h]
def qlz{s:S}{l:Z A}(h:lk s.h i=some (.inl (l,sz+1,1))):BZ s i sz=some l:=by simp[BZ,h]
variable{k:Nat}
variable{off':Nat}
def z65{n' c':Nat}(hr:aB x (.sl k off n c) v)(hi:x.Y k=some i)(hc:c'<bP)(hn:n'<=c'):aB x (.sl k off' n' c') (.slice (some ⟨i,off',none⟩) n' c'):=by simp only[aB]at*;exact⟨rfl,hr.2.1,fun b hb=>⟨(hr.2.2 b hb).1,fun _=>⟨i,hi,rfl,hc,hn⟩⟩⟩
def qzy{st:Nat}(hr:aB x (.ptr k st off) v)(hi:x.Y k=some i):aB x (.ptr k st off') (.pointer (some ⟨i,off',none⟩)):=by simp only[aB]at*;exact⟨rfl,hr.2.1,fun b hb=>⟨(hr.2.2 b hb).1,fun _=>⟨i,hi,rfl⟩⟩⟩
def Li{st n':Nat}{l:Z U}{v':A}(hr:aB x (.vl k st off n) v)(hb:gt x.X.h k=some (.vec l e sz st))(h1:v'.oneCell'=true)(h:FL off' n' v' sz (x.Y k)):aB x (.vl k st off' n') v':=by simp only[aB]at*;refine⟨h1,hr.2.1,fun b bV=>⟨(hr.2.2 b bV).1,fun _=>?_⟩⟩;rw[hb]at bV;cases bV;exact⟨l,e,sz,rfl,h⟩
def DD:Nat.blt 0 bP=true:=oL (by simp[bP])
def zo(hb:fD 0 0 lo hi mx=some (l,h,m)):l=0/\h=0/\m=0:=by
 cases mx with
 |none=>obtain⟨_,b2,b3,b4⟩:=QF hb (zF _);omega
 |some vm=>obtain⟨_,b2,b3,b4,_⟩:=Ni hb;omega
def WO{t:BQ}{l:Z (Z U)}(hg:lk x.s.h i=some (.inl (row,e,1)))(hr:gO x sz l (row.drop off))(hh:h<=l.length)(dO:a<h->off'=off+a*sz)
  (ht:t=true->c=h-a/\c<bP) (hc:a<h->(c<bP/\h-a<=c)\/(bP<=c/\e=sz+1/\0<sz/\off'=bI c*sz)):aB x (.isl t (o8 l a h)) (.slice (some ⟨i,off',none⟩) (h-a) c):=by
 have aN:=qtf (a:=a) hh;simp only[aB];refine .inr ⟨i,off',c,by rw[aN],by rw[aN];exact ht,?_⟩;by_cases aH:a<h;have e1:row.drop off'=(row.drop off).drop (a*sz):=by rw[List.drop_drop,dO aH]
 have As:=z3z (a:=a) (h:=h) hr;rw[<-e1]at As;refine .inr ⟨row,e,sz,hg,As,?_⟩;rw[aN];rcases hc aH with hc |⟨c1,c2,c3,c4⟩;exact .inl hc;refine .inr ⟨c1,c2,c3,c4,?_⟩;have:=Zo As;rw[aN,List.length_drop]at this;have eX:0<(h-a)*sz:=Nat.mul_pos (by omega) c3;omega;exact .inl (List.eq_nil_of_length_eq_zero (by rw[aN];omega))
def z0c(hd:T.und t=some (.slice e))(hs:c6 T e=some sz){tt:BQ}{l:Z (Z U)}{u:U}{va:A}(cC:(l.all fun c=>Nat.beq c.length sz)=true)
  (hb:fD l.length l.length lo hi mx=some (a,h,m)) (hu:match mx with
   |some _=>m<bP/\u=.isl (Nat.beq m h) (o8 l a h)|none=>u=.isl (cond tt (Nat.beq h l.length) false) (o8 l a h)) (ha:aB x (.isl tt l) va):qt5 T x t u va lo hi mx:=by
 simp only[aB]at ha;rcases ha with⟨rfl,rfl |⟨r,rfl⟩⟩|⟨i,off,c,rfl,ht,dD⟩;obtain⟨rfl,rfl,rfl⟩:=zo hb;refine .inl ⟨.slice none 0 0,by simp only[zS]at hb;simp[mN,hd,hb,hs,DD],?_⟩;rcases mx with _|vm;simp only at hu;subst hu;simp[aB,o8];simp only at hu;rw[hu.2];simp[aB,o8];obtain⟨rfl,rfl,rfl⟩:=zo hb;refine .inl ⟨.chan (some r),by simp only[zS]at hb;simp[mN,hd,hb,hs],?_⟩;rcases mx with _|vm;simp only at hu;subst hu;simp[aB,o8];simp only at hu;rw[hu.2];simp[aB,o8];by_cases cT:l=[];subst cT;obtain⟨rfl,rfl,rfl⟩:=zo hb;simp only[zS]at hb ht;have fin:∀(t':BQ)(off' c':Nat),(t'=true->c'=0)->aB x (.isl t' (o8 [] 0 0)) (.slice (some ⟨i,off',none⟩) 0 c'):=fun t' off' c' h1=>by simp only[aB];exact .inr ⟨i,off',c',by simp[o8],fun h=>by rw[h1 h];simp[o8,bP],.inl (by simp[o8])⟩
 by_cases hc:c<bP;cases mx with
 |none=>
  simp only[zS]at hu;subst hu;obtain⟨b1,_⟩:=QF hb (Nat.zero_le c);have qY:(cond tt (Nat.beq 0 0) false=true)->c=0:=fun h=>(ht (by cases tt<;>simp_all)).1;cases mP:Nat.beq c 0 with
  |true=>exact .inl ⟨_,by simp only[zS,mN,hd,oL hc,zC,b1,hs,mP]<;>rfl,fin _ off c qY⟩|false=>exact .inl ⟨_,by simp only[zS,mN,hd,oL hc,zC,zD,b1,hs,mP]<;>rfl,fin _ _ c qY⟩
 |some vm=>simp only at hu;obtain⟨_,_,_,_,b4⟩:=Ni hb;rw[hu.2];exact .inl ⟨_,by simp only[zS,mN,hd,oL hc,zC,b4 c (Nat.zero_le _),hs]<;>rfl,fin _ off 0 (fun _=>rfl)⟩
 cases mx with|none=>simp only[zS]at hu;subst hu;exact .inl ⟨_,by simp only[zS,mN,hd,JU hc,zD,emptyS,hb,hs]<;>rfl,fin _ off c (fun h=>absurd (ht (by cases tt<;>simp_all)).2 hc)⟩|some vm=>simp only at hu;rw[hu.2];exact .inl ⟨_,by simp only[zS,mN,hd,JU hc,zD,emptyS,hb,hs]<;>rfl,fin _ off 0 (fun _=>rfl)⟩
 rcases dD with dD |⟨row,e',gS,g1,g2,g3⟩;exact absurd dD cT;have eA:=qzx g2 cT cC;subst eA;have eX:0<l.length:=by cases l<;>simp_all
 rcases g3 with⟨hc,yr⟩|⟨hc,he,hz,dO,aN⟩;cases mx with
 |none=>
  simp only at hu;subst hu;obtain⟨b1,b2,b3,b4⟩:=QF hb yr;have qY:(cond tt (Nat.beq h l.length) false=true)->c-a=h-a/\c-a<bP:=fun hh=>by rcases tt with _|_;simp at hh;simp at hh;have:=(ht rfl).1;omega
  cases mP:Nat.beq c a with
  |true=>
   have:c=a:=by simpa[beq_eq]using mP
   exact .inl ⟨_,by simp only[mN,hd,oL hc,zC,b1,hs,mP]<;>rfl,WO g1 g2 b3 (fun h1=>by omega) qY (fun h1=>by omega)⟩
  |false=>exact .inl ⟨_,by simp only[mN,hd,oL hc,zC,zD,b1,hs,mP]<;>rfl,WO g1 g2 b3 (fun h1=>rfl) qY (fun h1=>.inl (by omega))⟩
 |some vm=>
  simp only at hu;rw[hu.2];obtain⟨b0,b1,b2,b3,b4⟩:=Ni hb;have qY:Nat.beq m h=true->m-a=h-a/\m-a<bP:=fun hh=>by simp at hh;omega
  cases mP:Nat.beq m a with
  |true=>
   have:m=a:=by simpa[beq_eq]using mP
   exact .inl ⟨_,by simp only[mN,hd,oL hc,zC,b4 c (by omega),hs,mP]<;>rfl,WO g1 g2 (by omega) (fun h1=>by omega) qY (fun h1=>by omega)⟩
  |false=>exact .inl ⟨_,by simp only[mN,hd,oL hc,zC,zD,b4 c (by omega),hs,mP]<;>rfl,WO g1 g2 (by omega) (fun h1=>rfl) qY (fun h1=>.inl (by omega))⟩
 obtain⟨d,rfl⟩:∃d,c=bP+d:=⟨c-bP,by omega⟩;have B1:bI (bP+d)=d:=by simp[bI]
 rw[B1]at dO;subst he;have htt:tt=false:=by rcases tt with _|_;rfl;exact absurd (ht rfl).2 (by omega)
 subst htt;cases mx with
 |none=>simp only[zD]at hu;subst hu;obtain⟨b1,b2,b3,b4⟩:=QF hb (zF _);obtain⟨s1,s2⟩:=qkz hd hs hz (i:=i) (n:=l.length) (d:=d) eX dO (qlz g1) aN hb;split at s2;exact .inr (.inl ⟨s1,_,s2,WO g1 g2 b3 (fun _=>by rw[dO,Nat.add_mul]) (fun h=>by cases h) (fun _=>.inr ⟨by omega,rfl,hz,by simp[bI]⟩)⟩);refine .inr (.inr ⟨s1,s2.1,_,s2.2,?_⟩);have hn:(o8 l a h)=[]:=List.eq_nil_of_length_eq_zero (by rw[qtf b3];omega);rw[hn];simp only[aB];exact .inr ⟨x.s.nx,0,bP,rfl,(fun h=>by cases h),.inl trivial⟩
 |some vm=>
  simp only at hu;rw[hu.2];obtain⟨b0,b1,b2,b3,b4⟩:=Ni hb;obtain⟨s1,s2⟩:=qoc hd hs hz (i:=i) (n:=l.length) (d:=d) eX dO (qlz g1) aN hb hu.1;have qY:Nat.beq m h=true->m-a=h-a/\m-a<bP:=fun hh=>by simp at hh;omega
  cases mP:Nat.beq m a with
  |true=>
   have:m=a:=by simpa[beq_eq]using mP
   rw[mP,zC]at s2;exact .inr (.inl ⟨s1,_,s2,WO g1 g2 (by omega) (fun h1=>by omega) qY (fun h1=>by omega)⟩)
  |false=>rw[mP,zD]at s2;exact .inr (.inl ⟨s1,_,s2,WO g1 g2 (by omega) (fun h1=>rfl) qY (fun h1=>.inl (by omega))⟩)
def z0d(hx:i8 x){a u:U}{va:A}(h:PW T x.X t a lo hi mx=some u)(ha:aB x a va):qt5 T x t u va lo hi mx:=by
 unfold PW at h;rcases hd:T.und t with _|d;simp[hd]at h;cases d with
 |string=>
  simp only[hd]at h;cases a with
  |str s=>cases mx with|some _=>simp at h|none=>simp only at h;rcases hb:fD s.length s.length lo hi none with _|q;simp[hb]at h;obtain⟨l,hh,m⟩:=q;simp only[hb,zA]at h;subst h;simp only[aB]at ha;subst ha;exact .inl ⟨.string ⟨((s.take hh).drop l).toArray⟩,by simp[mN,hd,hb],by simp[aB,o8]⟩
  |_=>simp at h
 |slice e=>
  simp only[hd]at h;rcases hs:c6 T e with _|sz;simp[hs]at h;simp only[hs]at h;cases a with
  |nils=>simp only at h;simp only[aB]at ha;subst ha;rcases hb:fD 0 0 lo hi mx with _|q;simp[hb]at h;obtain⟨l,hh,m⟩:=q;simp only[hb,zA]at h;subst h;obtain⟨rfl,rfl,rfl⟩:=zo hb;exact .inl ⟨.slice none 0 0,by simp[mN,hd,hb,hs,DD],by simp[aB]⟩
  |sl k off n c=>
   simp only at h;rcases hl:live x.X k 0 with _|_;simp[hl]at h;simp only[hl,zC]at h;rcases hb:fD n c lo hi mx with _|q;simp[hb]at h;obtain⟨l,hh,m⟩:=q;simp only[hb,zA]at h;subst h;obtain⟨i,gU,rfl,hc,sT⟩:=M6 hl ha;obtain⟨_,hmc⟩:=z1s hb;have hhm:=z1t hb sT;cases mP:Nat.beq m l with
   |true=>exact .inl ⟨_,by simp only[mN,hd,oL hc,zC,hb,hs,mP]<;>rfl,z65 ha gU (by omega) (by omega)⟩|false=>exact .inl ⟨_,by simp only[mN,hd,oL hc,zC,zD,hb,hs,mP]<;>rfl,z65 ha gU (by omega) (by omega)⟩
  |vl k st off n=>
   simp only at h;rcases hv:mK x.X k st with _|q;simp[hv]at h;obtain⟨r,e',gS⟩:=q;obtain⟨hg,hl⟩:=qq hv;simp only[hv,beq_eq]at h;by_cases hz:gS=sz;subst hz;simp only[yC,zC]at h;cases mx with
   |some _=>simp at h|none=>
    simp only at h;rcases hb:fD n n lo hi none with _|q;simp[hb]at h;obtain⟨l,hh,m⟩:=q;simp only[hb]at h;split at h;rename_i aN;simp only[zA]at h;subst h;obtain⟨l0,e0,Kf,rC,rQ⟩:=WQ hl ha;have hgg:(some (B.vec r e' gS st))=some (.vec l0 e0 Kf st):=hg.symm.trans rC;cases hgg;obtain⟨_,k1,k2,h3⟩:=hx.ok k _ hg;have zero:∀o c,n=0->va=.slice o 0 c->(∀a,o=some a->a.spot=none)->(o=none->c=0)->∃o' c',mN T t va lo hi none=some (.slice o' 0 c')/\(c=0->c'=0)/\(∀a,o'=some a->a.spot=none)/\(o=none->o'=none)/\(∀a,o=some a->∃a',o'=some a')/\(¬ c<bP->o'=o/\c'=c):=by
     rintro o c rfl rfl vN ho;obtain⟨b1,b2,b3,b4⟩:=QF hb (Nat.zero_le c);obtain rfl:hh=0:=by omega
     obtain rfl:l=0:=by omega
     by_cases hc:c<bP;rcases o with _|a;exact⟨none,c,by simp[mN,hd,oL hc,b1,hs],by simp,by simp,by simp,by simp,fun hn=>absurd hc hn⟩;rcases mP:Nat.beq c 0 with _|_;exact⟨some ⟨a.block,a.off+0*gS,none⟩,c,by simp only[mN,hd,oL hc,b1,hs,mP,zC,zD,Nat.sub_zero],by simp,by simp,by simp,by simp,fun hn=>absurd hc hn⟩;exact⟨some a,c,by simp only[mN,hd,oL hc,b1,hs,mP,zC,Nat.sub_zero],by simp,by simpa using vN a rfl,by simp,by simp,fun hn=>absurd hc hn⟩;rcases o with _|a;exact absurd (by rw[ho rfl];simp[bP]) hc;obtain rfl:m=0:=by omega
     exact⟨some a,c,by simp only[mN,hd,JU hc,zD,emptyS,hb,hs],by simp,by simpa using vN a rfl,by simp,by simp,fun _=>⟨rfl,rfl⟩⟩
    have AW:n=0->l=0/\hh=0:=fun yq=>by obtain⟨b1,b2,b3,b4⟩:=QF hb (zF _);omega
    rcases h3 with⟨hr0,gX⟩|⟨i,l',e1,e2,e3⟩;rw[gX]at rQ;obtain⟨rfl,rfl,o,rfl,vN⟩:=rQ;obtain⟨rfl,rfl⟩:=AW rfl;obtain⟨o',c',q1,q2,q3,q4,q5,q6⟩:=zero o 0 rfl rfl vN (fun _=>rfl);rw[q2 rfl]at q1;exact .inl ⟨_,q1,Li ha hg rfl (by rw[gX];exact⟨rfl,rfl,o',rfl,q3⟩)⟩;rw[e1]at rQ;rcases rQ with⟨h0,rfl,a,c,rfl,vN⟩|rfl;obtain⟨rfl,rfl⟩:=AW rfl;obtain⟨o',c',q1,q2,q3,q4,q5,q6⟩:=zero (some a) c rfl rfl (by simpa using vN) (by simp);obtain⟨a',rfl⟩:=q5 a rfl;exact .inl ⟨_,q1,Li ha hg rfl (by rw[e1];exact .inl ⟨by omega,rfl,a',c',rfl,q3 a' rfl⟩)⟩;by_cases hn:n=0;subst hn;obtain⟨rfl,rfl⟩:=AW rfl;obtain⟨o',c',q1,q2,q3,q4,q5,q6⟩:=zero (some ⟨i,off*gS,none⟩) (bP+off) rfl rfl (by simp) (by simp);obtain⟨rfl,rfl⟩:=q6 (by omega);exact .inl ⟨_,q1,Li ha hg rfl (by rw[e1];exact .inr rfl)⟩;have:=qkz hd hs k2 (i:=i) (n:=n) (d:=off) (by omega) rfl (qvm e2) (by rw[<-e3.2,<-Nat.add_mul];exact aN) hb;obtain⟨s1,s2⟩:=this;split at s2;exact .inr (.inl ⟨s1,_,s2,Li ha hg rfl (by rw[e1];exact .inr rfl)⟩);rename_i aH;obtain⟨b1,b2,b3,b4⟩:=QF hb (zF _);refine .inr (.inr ⟨s1,s2.1,_,s2.2,?_⟩);have bV:=dw ha;have GT:hh-l=0:=by omega
    rw[GT];exact Li (x:=bump x) bV hg rfl (by show FL _ _ _ _ (x.Y k);rw[e1];exact .inl ⟨by omega,rfl,_,_,rfl,rfl⟩);cases h
   simp[hz]at h
  |isl tt l=>simp only at h;split at h;rename_i cC;rcases hb:fD l.length l.length lo hi mx with _|q;simp[hb]at h;obtain⟨a,hh,m⟩:=q;simp only[hb]at h;refine z0c hd hs (tt:=tt) cC hb ?_ ha;rcases mx with _|vm;simp only[zA]at h ⊢;exact h.symm;simp only at h ⊢;split at h;rename_i hm;simp only[zA]at h;exact⟨hm,h.symm⟩;cases h;cases h
  |_=>simp at h
 |_=>simp[hd]at h
variable{T:Tb}
variable{x:Cx}
variable{a:U}
variable{u:U}
variable{va:A}
def qrn{st:O}{f:Nat}(h:Nh T x.X st a f=some u)(ha:aB x a va):∃v,Ng T st va f=some v/\aB x u v:=by
 unfold Nh at h;unfold Ng;rcases hd:T.und st with _|d;simp[hd]at h;cases d with
 |struct fs=>
  simp only[hd]at h ⊢;rcases hf:nth fs.toList f with _|fd;simp[hf]at h;simp only[hf]at h ⊢;rcases hs:c6 T fd.type with _|n;simp[hs]at h;cases n with
  |zero=>simp[hs]at h|succ n=>
   simp only[hs]at h;cases a with
   |ptr k s off=>simp only at h;rcases hl:live x.X k s with _|_;simp[hl]at h;simp only[hl,zC,zA]at h;subst h;obtain⟨i,hi,rfl⟩:=WU hl ha;exact⟨_,rfl,qzy ha hi⟩
   |iptr l=>simp only[zA]at h;subst h;simp only[aB]at ha;obtain⟨i,off,row,e,rfl,h2,h3,h4⟩:=ha;refine⟨_,rfl,?_⟩;simp only[aB];exact⟨i,off+fd.offset,row,e,rfl,h2,by rw[<-List.drop_drop];exact h3.drop _,EA h4 _⟩
   |_=>simp at h
 |_=>simp[hd]at h
def qxx{st:O}{f:Nat}(h:bq T st a f=some u)(ha:aB x a va):∃v,Lo T st va f=some v/\aB x u v:=by
 unfold bq at h;unfold Lo;rcases hd:T.und st with _|d;simp[hd]at h;cases d with
 |struct fs=>
  simp only[hd]at h ⊢;rcases hf:nth fs.toList f with _|fd;simp[hf]at h;simp only[hf]at h ⊢;cases a with
  |agg cs=>simp only[aB]at ha;obtain⟨vs,rfl,h1,h2,h3⟩:=ha;exact qul h ⟨h1,h2⟩ h3
  |_=>simp at h
 |_=>simp[hd]at h
def JN{i:Int}{n:Nat}(h:0<=i/\i<n):oM i n=true:=by
 unfold oM;cases i with
 |ofNat k=>exact oL (by have:=h.2;simp at this;exact this)|negSucc k=>have:=h.1;omega
variable{t:O}
def qrt(hx:i8 x){b:U}{vb:A}(h:AH T x.X t a b=some u)(ha:aB x a va)(hb:aB x b vb):∃v,My T t va vb=some v/\aB x u v:=by
 unfold AH at h;cases b with
 |int k i=>
  simp only[aB]at hb;subst hb;simp only[My];simp only at h;rcases hd:T.und t with _|d;simp[hd]at h;cases d with
  |slice e=>
   simp only[hd]at h;rcases hs:c6 T e with _|sz;simp[hs]at h;simp only[hs]at h;cases a with
   |sl k off n c=>simp only at h;rcases hl:live x.X k 0 with _|_;simp[hl]at h;simp only[hl,zC]at h;split at h;rename_i gG;simp only[zA]at h;subst h;obtain⟨i',hi,rfl,_⟩:=M6 hl ha;refine⟨_,by simp only[JN gG,zC,hs]<;>rfl,?_⟩;obtain⟨b,q1,q2⟩:=Ns hl;simp only[aB]at ha ⊢;exact⟨rfl,ha.2.1,fun b hb=>⟨Nat.zero_le _,fun _=>⟨i',hi,rfl⟩⟩⟩;cases h
   |vl k st off n=>simp only at h;rcases hv:mK x.X k st with _|q;simp[hv]at h;obtain⟨l,e',gS⟩:=q;obtain⟨hg,hl⟩:=qq hv;simp only[hv,beq_eq]at h;by_cases hz:gS=sz;subst hz;simp only[yC,zC]at h;split at h;rename_i gG;simp only[zA]at h;subst h;obtain⟨i',l0,e0,Kf,l',h1,h2,rfl,h4,h5,h6,h7⟩:=an hx hl ha (by omega);have:=hg.symm.trans h1;cases this;refine⟨_,by simp only[JN ⟨gG.1,gG.2.1⟩,zC,hs]<;>rfl,?_⟩;simp only[aB]at ha ⊢;refine⟨rfl,ha.2.1,fun b hb=>⟨(ha.2.2 b hb).1,fun _=>⟨i',h2,rfl⟩⟩⟩;cases h;simp[hz]at h
   |isl tt l=>simp only at h;split at h;rename_i gG;rcases hc:l[i.toNat]? with _|c;simp[hc]at h;simp only[hc,beq_eq]at h;by_cases hz:c.length=sz;simp only[hz,yC,zC,zA]at h;subst h;simp only[aB]at ha;rcases ha with⟨rfl,_⟩|⟨i',off,c',rfl,ht,dD⟩;simp at hc;rcases dD with rfl |⟨row,e',gS,g1,g2,g3⟩;simp at hc;obtain⟨q1,q2,q3⟩:=Zp g2 _ _ hc;refine⟨_,by simp only[JN gG,zC,hs]<;>rfl,?_⟩;simp only[aB];refine⟨i',off+i.toNat*sz,row,e',rfl,g1,?_,q2⟩;rw[List.drop_drop]at q3;rw[<-hz,q1];exact q3;simp[hz]at h;cases h
   |_=>simp at h
  |array n e=>
   simp only[hd]at h;rcases hs:c6 T e with _|sz;simp[hs]at h;simp only[hs]at h;cases a with
   |ptr k st off=>simp only at h;rcases hl:live x.X k st with _|_;simp[hl]at h;simp only[hl,zC]at h;split at h;rename_i gG;simp only[zA]at h;subst h;obtain⟨i',hi,rfl⟩:=WU hl ha;exact⟨_,by simp only[JN gG,zC,hs]<;>rfl,qzy ha hi⟩;cases h
   |iptr l=>simp only at h;split at h;rename_i gG;simp only[zA]at h;subst h;simp only[aB]at ha;obtain⟨i',off,row,e',rfl,h2,h3,h4⟩:=ha;refine⟨_,by simp only[JN gG,zC,hs]<;>rfl,?_⟩;simp only[aB];exact⟨i',_,row,e',rfl,h2,by rw[<-List.drop_drop];exact h3.drop _,EA h4 _⟩;cases h
   |_=>simp at h
  |_=>simp[hd]at h
 |_=>simp at h
def qyd{b:U}{vb:A}(h:Yn T t a b=some u)(ha:aB x a va)(hb:aB x b vb):∃v,WI T t va vb=some v/\aB x u v:=by
 unfold Yn at h;cases a with
 |agg cs=>
  simp only at h;cases b with
  |int k i=>
   simp only[aB]at ha hb;subst hb;obtain⟨vs,rfl,h1,h2,h3⟩:=ha;simp only at h;rcases hd:T.und t with _|d;simp[hd]at h;cases d with
   |array n e=>simp only[hd]at h;split at h;rename_i gG;rcases hs:c6 T e with _|sz;simp[hs]at h;simp only[hs]at h;obtain⟨v,q1,q2⟩:=qul h ⟨h1,h2⟩ h3;exact⟨v,by simp only[WI,hd,JN gG,zC,hs];exact q1,q2⟩;cases h
   |_=>simp[hd]at h
  |_=>simp at h
 |_=>exact SK h ha hb
def z7f(hx:i8 x)(h:v7 T x.X t a=some u)(ha:aB x a va):
  ∃ v,(CH T t va=some v\/(CH T t va=none/\∃ kt et r,T.und t=some (.map kt et)/\va = .map r/\(match r with
     |none=>some (Value.int .i64 0)|some r=>match lk x.s.h r with
      |some (.inr (es,_))=>some (.int .i64 es.length)|_=>none)=some v))/\aB x u v:=by
 unfold v7 at h;unfold CH;rcases hd:T.und t with _|d;simp[hd]at h;cases d with
 |string=>
  simp only[hd]at h ⊢;cases a with
  |str s=>simp only[zA]at h;subst h;simp only[aB]at ha;subst ha;exact⟨_,.inl rfl,by simp[aB]⟩|_=>simp at h
 |slice e=>
  simp only[hd]at h ⊢;cases a with
  |nils=>simp only[zA]at h;subst h;simp only[aB]at ha;subst ha;exact⟨_,.inl rfl,by simp[aB]⟩|sl k off n c=>simp only at h;rcases hl:live x.X k 0 with _|_;simp[hl]at h;simp only[hl,zC,zA]at h;subst h;obtain⟨i,_,rfl,_⟩:=M6 hl ha;exact⟨_,.inl rfl,by simp[aB]⟩
  |vl k st off n=>simp only at h;rcases hl:live x.X k st with _|_;simp[hl]at h;simp only[hl,zC,zA]at h;subst h;obtain⟨_,_,_,_,hv⟩:=WQ hl ha;obtain⟨o,c,rfl⟩:=uy hv;exact⟨_,.inl rfl,by simp[aB]⟩
  |isl tt l=>simp only[zA]at h;subst h;simp only[aB]at ha;rcases ha with⟨rfl,rfl |⟨_,rfl⟩⟩|⟨_,_,_,rfl,_⟩<;>exact⟨_,.inl rfl,by simp[aB]⟩
  |_=>simp at h
 |array n e=>simp only[hd]at h ⊢;cases a<;>simp at h<;>subst h<;>exact⟨_,.inl rfl,by simp[aB]⟩|map kt et=>
  simp only[hd]at h ⊢;cases a with
  |nilm=>simp only[zA]at h;subst h;simp only[aB]at ha;subst ha;exact⟨_,.inr ⟨trivial,kt,et,none,rfl,rfl,rfl⟩,by simp[aB]⟩|map k=>
   simp only at h;rcases hg:gt x.X.h k with _|b;simp[hg]at h;cases b with
   |map es cl=>simp only[hg,zA]at h;subst h;obtain⟨i,hi,rfl⟩:=Zs (x:=x) (by simp[live,hg,B.st]) ha;obtain⟨_,i',es',e1,e2,e3⟩:=hx.ok k _ hg;rw[hi]at e1;cases e1;exact⟨.int .i64 es'.length,.inr ⟨trivial,kt,et,some i,rfl,rfl,by simp[e2]⟩,by simp[aB,e3.1]⟩
   |_=>simp[hg]at h
  |_=>simp at h
 |_=>simp[hd]at h
def z6t(hx:i8 x)(h:Ci T x.X t a=some u)(ha:aB x a va):∃v,IE T t va=some v/\aB x u v:=by
 unfold Ci at h;unfold IE;rcases hd:T.und t with _|d;simp[hd]at h;cases d with
 |slice e=>
  simp only[hd]at h ⊢;cases a with
  |nils=>simp only[zA]at h;subst h;simp only[aB]at ha;subst ha;exact⟨_,rfl,by simp[aB]⟩|sl k off n c=>simp only at h;rcases hl:live x.X k 0 with _|_;simp[hl]at h;simp only[hl,zC,zA]at h;subst h;obtain⟨i,_,rfl,hc,_⟩:=M6 hl ha;have lI:Nat.blt c bP=true:=Nat.ble_eq_true_of_le hc;exact⟨.int .i64 c,by simp only[lI,zC],by simp[aB]⟩
  |_=>simp at h
 |_=>simp[hd]at h
def z3s(hx:i8 x){tm:Z U}{tv:Z A}(ht:aX x tm tv){op:Op}(h:gW T x.X tm op=some u):o4 T x tv op u x.X:=by
 have one:∀v,gT T tv op=some v->aB x u v->o4 T x tv op u x.X:=fun v h1 h2=>o4.same hx (z3g h1) h2;unfold gW at h;cases op with
 |move o=>obtain⟨v,h1,h2⟩:=fI ht h;exact one v (by simp[gT,h1]) h2
 |assign o=>obtain⟨v,h1,h2⟩:=fI ht h;exact one v (by simp[gT,h1]) h2
 |pick c a b=>
  simp only at h;rcases hc:bS tm c with _|cu;simp[hc]at h;obtain⟨cv,c1,c2⟩:=fI ht hc;cases cu with
  |bool t=>
   simp only[aB]at c2;subst c2;cases t with
   |true=>simp only[hc]at h;obtain⟨v,h1,h2⟩:=fI ht h;exact one v (by simp[gT,c1,h1]) h2
   |false=>simp only[hc]at h;obtain⟨v,h1,h2⟩:=fI ht h;exact one v (by simp[gT,c1,h1]) h2
  |_=>simp[hc]at h
 |build t ps=>simp only at h;rcases hp:wZ tm ps.toList with _|qs;simp[hp]at h;simp only[hp]at h;obtain⟨vs,h1,h2⟩:=fv ht hp;obtain⟨v,h3,h4⟩:=qx7 h h2;exact one v (by simp[gT,h1,h3]) h4
 |nilCheck o=>
  simp only at h;rcases ho:bS tm o with _|a;simp[ho]at h;obtain⟨va,a1,a2⟩:=fI ht ho;cases a with
  |ptr k st off=>simp only[ho]at h;rcases hl:live x.X k st with _|_;simp[hl]at h;simp only[hl,zC,zA]at h;subst h;obtain⟨i,hi,rfl⟩:=WU hl a2;exact one _ (by simp[gT,a1]) a2
  |iptr l=>simp only[ho,zA]at h;subst h;have a3:=a2;simp only[aB]at a2;obtain⟨i,off,row,e,rfl,_⟩:=a2;exact one _ (by simp[gT,a1]) a3
  |fn f p q=>
   cases f with
   |func g=>simp only[ho,zA]at h;subst h;have a3:=a2;simp only[aB]at a2;obtain⟨i,off,rfl,_⟩:=a2;exact one _ (by simp[gT,a1]) a3
   |_=>simp[ho]at h
  |_=>simp[ho]at h
 |binOp o t a b ty=>simp only at h;rcases ha:bS tm a with _|au;simp[ha]at h;rcases hb:bS tm b with _|bu;simp[ha,hb]at h;simp only[ha,hb]at h;obtain⟨va,a1,a2⟩:=fI ht ha;obtain⟨vb,b1,b2⟩:=fI ht hb;obtain⟨v,h1,h2⟩:=z6j hx h a2 b2;exact one v (by simp[gT,a1,b1,h1]) h2
 |unOp o t a=>simp only at h;rcases ha:bS tm a with _|au;simp[ha]at h;simp only[ha]at h;obtain⟨va,a1,a2⟩:=fI ht ha;obtain⟨v,h1,h2⟩:=SL h a2;exact one v (by simp[gT,a1,h1]) h2
 |convert s d a=>simp only at h;rcases ha:bS tm a with _|au;simp[ha]at h;simp only[ha]at h;obtain⟨va,a1,a2⟩:=fI ht ha;obtain⟨v,h1,h2⟩:=SL h a2;exact one v (by simp[gT,a1,h1]) h2
 |makeFunc f a b=>simp only at h;rcases ha:lP tm a.toList with _|au;simp[ha]at h;rcases hb:lP tm b.toList with _|bu;simp[ha,hb]at h;simp only[ha,hb,zA]at h;subst h;obtain⟨va,a1,a2⟩:=MH ht ha;obtain⟨vb,b1,b2⟩:=MH ht hb;exact one _ (by simp[gT,a1,b1]<;>rfl) (by simp only[aB];exact⟨va,vb,rfl,a2.1,a2.2,b2.1,b2.2⟩)
 |slice t a lo hi mx=>simp only at h;rcases ha:bS tm a with _|au;simp[ha]at h;rcases h1:uF tm lo with _|lo';simp[ha,h1]at h;rcases h2:uF tm hi with _|gU;simp[ha,h1,h2]at h;rcases h3:uF tm mx with _|mx';simp[ha,h1,h2,h3]at h;simp only[ha,h1,h2,h3]at h;obtain⟨va,a1,a2⟩:=fI ht ha;have e1:=ic ht h1;have e2:=ic ht h2;have e3:=ic ht h3;rcases z0d hx h a2 with⟨v,s1,s2⟩|⟨s0,v,s1,s2⟩|⟨s0,s1,v,s2,s3⟩;exact one v (by simp[gT,a1,e1,e2,e3,s1]) s2;exact o4.same hx (Mv (by simp[gT,a1,e1,e2,e3,s0]) (by simp[mL,a1,e1,e2,e3,s1])) s2;exact⟨v,bump x,qub (by simp[gT,a1,e1,e2,e3,s0]) (by simp[mL,a1,e1,e2,e3,s1]) (by simp[qS,a1,e1,e2,e3,s2]),rfl,s3,z1v hx⟩
 |fieldAddr t a f=>simp only at h;rcases ha:bS tm a with _|au;simp[ha]at h;simp only[ha]at h;obtain⟨va,a1,a2⟩:=fI ht ha;obtain⟨v,h1,h2⟩:=qrn h a2;exact one v (by simp[gT,a1,h1]) h2
 |field t a f=>simp only at h;rcases ha:bS tm a with _|au;simp[ha]at h;simp only[ha]at h;obtain⟨va,a1,a2⟩:=fI ht ha;obtain⟨v,h1,h2⟩:=qxx h a2;exact one v (by simp[gT,a1,h1]) h2
 |indexAddr t a b=>simp only at h;rcases ha:bS tm a with _|au;simp[ha]at h;rcases hb:bS tm b with _|bu;simp[ha,hb]at h;simp only[ha,hb]at h;obtain⟨va,a1,a2⟩:=fI ht ha;obtain⟨vb,b1,b2⟩:=fI ht hb;obtain⟨v,h1,h2⟩:=qrt hx h a2 b2;exact one v (by simp[gT,a1,b1,h1]) h2
 |index t a b=>simp only at h;rcases ha:bS tm a with _|au;simp[ha]at h;rcases hb:bS tm b with _|bu;simp[ha,hb]at h;simp only[ha,hb]at h;obtain⟨va,a1,a2⟩:=fI ht ha;obtain⟨vb,b1,b2⟩:=fI ht hb;obtain⟨v,h1,h2⟩:=qyd h a2 b2;exact one v (by simp[gT,a1,b1,h1]) h2
 |extract a i=>
  simp only at h;rcases ha:bS tm a with _|au;simp[ha]at h;simp only[ha]at h;obtain⟨va,a1,a2⟩:=fI ht ha;cases au with
  |tup l=>simp only[aB]at a2;obtain⟨vs,rfl,q1,q2⟩:=a2;simp only[Zy,i9]at h;obtain⟨v,h1,h2⟩:=(show aX x l vs from⟨q1,q2⟩).get h;exact one v (by simp[gT,a1,Fo,i9,h1]) h2
  |_=>simp[Zy]at h
 |call c=>
  simp only at h;obtain⟨callee,args,ats⟩:=c;cases callee with
  |builtin b=>
   cases b with
   |len=>
    simp only at h;rcases ha:lP tm args.toList with _|us;simp[ha]at h;obtain⟨vs,a1,a2⟩:=MH ht ha;rcases rY:ats.toList with _|⟨t,ts⟩;simp[ha,rY]at h;rcases us with _|⟨a,l⟩;simp[ha]at h;cases l with
    |cons _ _=>simp[ha]at h|nil=>obtain⟨va,pL,rfl,r1,r2⟩:=a2.inv;rw[r2.nil_inv]at a1;simp only[ha,rY]at h;obtain⟨v,q1,q2⟩:=z7f hx h r1;rcases q1 with q1 |⟨q0,kt,et,r,hd,rfl,q1⟩;exact one v (by simp[gT,a1,rY,q1]) q2;refine o4.same hx (Mv (by simp[gT,a1,rY,q0]) ?_) q2;rcases r with _|r;simp only[mL,a1,rY,hd];exact q1;simp only[mL,a1,rY,hd];exact q1
   |cap=>
    simp only at h;rcases ha:lP tm args.toList with _|us;simp[ha]at h;obtain⟨vs,a1,a2⟩:=MH ht ha;rcases rY:ats.toList with _|⟨t,ts⟩;simp[ha,rY]at h;rcases us with _|⟨a,l⟩;simp[ha]at h;cases l with
    |cons _ _=>simp[ha]at h|nil=>obtain⟨va,pL,rfl,r1,r2⟩:=a2.inv;rw[r2.nil_inv]at a1;simp only[ha,rY]at h;obtain⟨v,q1,q2⟩:=z6t hx h r1;exact one v (by simp[gT,a1,rY,q1]) q2
   |max=>simp only at h;rcases ha:lP tm args.toList with _|us;simp[ha]at h;obtain⟨vs,a1,a2⟩:=MH ht ha;rcases us with _|⟨a,l⟩;simp[ha]at h;obtain⟨va,pL,rfl,r1,r2⟩:=a2.inv;simp only[ha]at h;rcases h1:toV a with _|v1;simp[h1]at h;rcases h2:mR l with _|v2;simp[h1,h2]at h;simp only[h1,h2]at h;have e1:=(vF a v1 h1 x va).1 r1;have e2:=(Ff l v2 h2 x pL).1 r2;subst e1;subst e2;rcases h3:wV W8 va pL with _|r;simp[h3]at h;simp only[h3]at h;exact one r (by simp[gT,a1,h3]) ((JL r u h).2 x)
   |min=>simp only at h;rcases ha:lP tm args.toList with _|us;simp[ha]at h;obtain⟨vs,a1,a2⟩:=MH ht ha;rcases us with _|⟨a,l⟩;simp[ha]at h;obtain⟨va,pL,rfl,r1,r2⟩:=a2.inv;simp only[ha]at h;rcases h1:toV a with _|v1;simp[h1]at h;rcases h2:mR l with _|v2;simp[h1,h2]at h;simp only[h1,h2]at h;have e1:=(vF a v1 h1 x va).1 r1;have e2:=(Ff l v2 h2 x pL).1 r2;subst e1;subst e2;rcases h3:wV PU va pL with _|r;simp[h3]at h;simp only[h3]at h;exact one r (by simp[gT,a1,h3]) ((JL r u h).2 x)
   |_=>simp at h
  |_=>simp at h
 |_=>simp at h
def Nd{T:Tb}{x:Cx}{kt:O}{k:A}:∀{es:Z ME}{vs:Z MapEntry}(i:Nat){r:I (Nat×U)},nI x es vs->BW T kt k es i=some r->
  (r=none/\oK T kt k vs i=some none)\/∃j u v,r=some (j,u)/\oK T kt k vs i=some (some (j,v))/\aB x u v/\i<=j/\∃e e',es[j-i]? = some e/\e.val=u/\vs[j-i]? = some e'/\aB x e.key e'.key/\e'.born=e.born/\e'.val=v
 |[],vs,i,r,hm,h=>by
  simp only[BW,zA]at h;subst h;have:vs=[]:=by have:=hm.1;simpa using this.symm
  subst this;exact .inl ⟨rfl,rfl⟩
 |e::es,[],i,r,hm,h=>by have:=hm.1;simp at this
 |e::es,e'::vs,i,r,hm,h=>by
  obtain⟨v0,q0,q1,q2,q3⟩:=hm.2 0 e rfl;simp at q0;subst q0;have fS:nI x es vs:=⟨by have:=hm.1;simpa using this,fun j d hd=>by simpa using hm.2 (j+1) d (by simpa using hd)⟩;simp only[BW]at h;rcases hk:toV e.key with _|k';simp[hk]at h;simp only[hk]at h;have ek:=(vF _ _ hk x _).1 q1;rcases he:eqv T 50 kt k k' with _|b;simp[he]at h;cases b with
  |true=>simp only[he,zA]at h;subst h;exact .inr ⟨i,e.val,e'.val,rfl,by simp[oK,ek,he],q2,zF _,e,e',by simp,rfl,by simp,q1,q3,rfl⟩|false=>simp only[he]at h;rcases Nd (i+1) fS h with⟨h1,h2⟩|⟨j,u,v,h1,h2,h3,h4,d,d',h5,h6,h7,h8⟩;exact .inl ⟨h1,by simp[oK,ek,he,h2]⟩;refine .inr ⟨j,u,v,h1,by simp[oK,ek,he,h2],h3,by omega,d,d',?_,h6,?_,h8⟩;rw[show j-i=(j-(i+1))+1 by omega];simpa using h5;rw[show j-i=(j-(i+1))+1 by omega];simpa using h7
def qu0{l:Z U}{off:Nat}{lv:Z A}(h:E3 T t l off=some u)(hl:c8 x l lv)(hk:okL l=true):
  ∃v,(match T.und t with
    |none=>none|some d=>cond (p9 d) (match c6 T t with
      |some n=>match u9 lv off n with
       |some cs=>some (.agg cs.toArray)|none=>none
      |none=>none) (nth lv off))=some v/\aB x u v:=by
 unfold E3 at h;rcases hd:T.und t with _|d;simp[hd]at h;simp only[hd]at h ⊢;cases ha:p9 d with
 |true=>
  simp only[ha,zC]at h ⊢;rcases hs:c6 T t with _|n;simp[hs]at h;simp only[hs]at h ⊢;rcases hg:iZ l off n with _|cs;simp[hg]at h;simp only[hg,zA]at h;subst h;obtain⟨h1,rfl⟩:=QJ hg;have aN:=c8.len hl;rw[Lh (by omega)];refine⟨_,rfl,?_⟩;simp only[aB];have:=(hl.drop off).takeE;have e1:aX x ((l.drop off).take n) ((lv.drop off).take n):=by refine aX.mk' (by simp;omega) fun i u hu=>?_;rw[List.getElem?_take]at hu ⊢;split at hu;rename_i aH;simp only[aH,if_true];exact(FZ x _ _).1 (hl.drop off) i u hu;cases hu
  exact⟨_,rfl,e1.1,e1.2,QC (EA hk _) _⟩
 |false=>simp only[ha,zD,i9]at h ⊢;exact(FZ x _ _).1 hl _ _ h
def qia(hx:i8 x){k st:Nat}{l:Z U}(h:cellsOf x.X k st=some l){off:Nat}{v:A}(hr:aB x (.ptr k st off) v):
  ∃i lv e md,x.Y k=some i/\v=.pointer (some ⟨i,off,none⟩)/\lk x.s.h i=some (.inl (lv,e,md))/\md≠1/\aX x l lv/\okL l=true/\
   ((md=0/\gt x.X.h k=some (.row l e))\/(∃sz,md=sz+2/\0<sz/\gt x.X.h k=some (.vec l e sz st))):=by
 unfold cellsOf at h;rcases hg:gt x.X.h k with _|b;simp[hg]at h;cases b with
 |row l' e=>simp only[hg,beq_eq]at h;by_cases c9:0=st;subst c9;simp at h;subst h;obtain⟨i,hi,rfl⟩:=WU (x:=x) (by simp[live,hg,B.st]) hr;obtain⟨_,k1,i',lv,e1,e2,e3⟩:=hx.ok k _ hg;rw[hi]at e1;cases e1;exact⟨i,lv,e,0,hi,rfl,e2,by omega,e3,k1,.inl ⟨rfl,rfl⟩⟩;simp[c9]at h
 |vec l' e sz bG=>simp only[hg,beq_eq]at h;by_cases c9:bG=st;subst c9;simp at h;subst h;obtain⟨i,hi,rfl⟩:=WU (x:=x) (by simp[live,hg,B.st]) hr;obtain⟨_,k1,k2,h3⟩:=hx.ok k _ hg;rcases h3 with⟨h4,h5⟩|⟨i',lv,e1,e2,e3⟩;rw[hi]at h5;cases h5;rw[hi]at e1;cases e1;exact⟨i,lv,e,sz+2,hi,rfl,e2,by omega,e3,k1,.inr ⟨sz,rfl,k2,rfl⟩⟩;simp[c9]at h
 |map es cl=>simp[hg]at h
def qut(hx:i8 x){tm:Z U}{tv:Z A}(ht:aX x tm tv){op:Op}(h:oY T x.X tm op=some u):o4 T x tv op u x.X:=by
 unfold oY at h;cases op with
 |load t o=>
  simp only at h;rcases ho:bS tm o with _|a;simp[ho]at h;obtain⟨va,a1,a2⟩:=fI ht ho;cases a with
  |ptr k st off=>simp only[ho]at h;rcases hc:cellsOf x.X k st with _|l;simp[hc]at h;simp only[hc]at h;obtain⟨i,lv,e,md,q1,rfl,q2,_,q3,q4,_⟩:=qia hx hc a2;obtain⟨v,r1,r2⟩:=qu0 h q3.1 q4;exact o4.same hx (Mv (by simp[gT]) (by simp only[mL,a1,q2];exact r1)) r2
  |iptr l=>
   simp only[ho]at h;simp only[aB]at a2;obtain⟨i,off,row,e,rfl,g1,g2,g3⟩:=a2;obtain⟨v,r1,r2⟩:=qu0 h g2 g3;refine o4.same hx (Mv (by simp[gT]) (v:=v) ?_) r2;simp only[mL,a1,g1];rcases hd:T.und t with _|d;simp[hd]at r1;simp only[hd]at r1 ⊢;cases ha:p9 d with
   |true=>simp only[ha,zC]at r1 ⊢;rcases hs:c6 T t with _|n;simp[hs]at r1;simp only[hs,u9,List.drop_drop,Nat.add_zero]at r1 ⊢;exact r1
   |false=>simp only[ha,zD,i9,List.getElem?_drop,Nat.add_zero]at r1 ⊢;exact r1
  |_=>simp[ho]at h
 |lookup t a b ok=>
  simp only at h;rcases hd:T.und t with _|d;simp[hd]at h;cases d with
  |map kt et=>
   rcases ha:bS tm a with _|m;simp[hd,ha]at h;rcases hb:bS tm b with _|ku;simp[hd,ha,hb]at h;simp only[hd,ha,hb]at h;obtain⟨va,a1,a2⟩:=fI ht ha;obtain⟨vb,b1,b2⟩:=fI ht hb;rcases hk:toV ku with _|kv;simp[hk]at h;simp only[hk]at h;have ekv:=(vF _ _ hk x vb).1 b2;subst ekv;rcases nY:o7 T 50 kt vb with _|_;simp[nY]at h;simp only[nY,zC]at h;have key:∀ (es:Z ME) (vs:Z MapEntry),(va = .map none/\vs=[]\/∃ i cl,va = .map (some i)/\lk x.s.h i=some (.inr (vs,cl)))->nI x es vs->(match BW T kt vb es 0 with
      |none=>none|some (some (_,v))=>some (cond ok (.tup [v,.bool true]) v)
      |some none=>match T.inf et with
       |some (_,_,z)=>(match iB z with
        |some zu=>some (cond ok (.tup [zu,.bool false]) zu)|none=>none)
       |none=>none)=some u->o4 T x tv (.lookup t a b ok) u x.X:=by
    intro es vs e1 e3 h;have fin:∀v,mL T tv x.s (.lookup t a b ok)=some v->aB x u v->o4 T x tv (.lookup t a b ok) u x.X:=fun v h1 h2=>o4.same hx (Mv (by simp[gT]) h1) h2;have F5:∀(p:U)(q:A)(bb:BQ),aB x p q->aB x (cond ok (.tup [p,.bool bb]) p) (cond ok (.tuple #[q,.bool bb]) q):=fun p q bb rR=>by rcases ok with _|_;exact rR;simp only[zC,aB];exact⟨[q,.bool bb],rfl,by simp[c8,rR,aB],rfl⟩
    rcases hf:BW T kt vb es 0 with _|r';simp[hf]at h;rcases Nd 0 e3 hf with⟨rfl,h2⟩|⟨j,w,v,rfl,h2,h3,_⟩;simp only[hf]at h;rcases hi:T.inf et with _|q;simp[hi]at h;obtain⟨q1,q2,z⟩:=q;simp only[hi]at h;rcases hz:iB z with _|zu;simp[hz]at h;simp only[hz,zA]at h;subst h;have qZ:mL T tv x.s (.lookup t a b ok)=some (cond ok (.tuple #[z,.bool false]) z):=by rcases e1 with⟨rfl,rfl⟩|⟨i,cl,rfl,e1⟩;simp only[mL,hd,a1,b1,nY,zC,h2,hi];simp only[mL,hd,a1,b1,nY,zC,e1,h2,hi]
    exact fin _ qZ (F5 _ _ _ ((JL _ _ hz).2 x));simp only[hf,zA]at h;subst h;have qZ:mL T tv x.s (.lookup t a b ok)=some (cond ok (.tuple #[v,.bool true]) v):=by rcases e1 with⟨rfl,rfl⟩|⟨i,cl,rfl,e1⟩;simp only[mL,hd,a1,b1,nY,zC,h2];simp only[mL,hd,a1,b1,nY,zC,e1,h2]
    exact fin _ qZ (F5 _ _ _ h3)
   cases m with
   |nilm=>simp only[aB]at a2;exact key [] [] (.inl ⟨a2,rfl⟩) ⟨rfl,by simp⟩ h|map r=>
    simp only at h;rcases hg:gt x.X.h r with _|bb;simp[hg]at h;cases bb with
    |map es cl=>simp only[hg]at h;obtain⟨i,hi,rfl⟩:=Zs (x:=x) (by simp[live,hg,B.st]) a2;obtain⟨_,i',es',e1,e2,e3⟩:=hx.ok r _ hg;rw[hi]at e1;cases e1;exact key es es' (.inr ⟨i,cl,rfl,e2⟩) e3 h
    |_=>simp[hg]at h
   |_=>simp at h
  |_=>simp[hd]at h
 |_=>simp at h
variable{x:Cx}
variable{k:Nat}
variable{b:B}
def mQ.mono{y:Cx}(h:mQ x k b)(hm:Mo x.X.nx x y)(gX:y.Y k=x.Y k)(hl:∀i c,x.Y k=some i->lk x.s.h i=some c->lk y.s.h i=some c):mQ y k b:=by
 have relm:∀{es:Z ME}{es':Z MapEntry},nI x es es'->nI y es es':=fun{es es'} e3=>⟨e3.1,fun j e he=>by obtain⟨v,q1,q2,q3,q4⟩:=e3.2 j e he;exact⟨v,q1,hm.ke _ _ (aB.bel _ _ q2) q2,hm.ke _ _ (aB.bel _ _ q3) q3,q4⟩⟩;cases b with
 |row l e=>obtain⟨k1,i,l',e1,e2,e3⟩:=h;exact⟨k1,i,l',by rw[gX,e1],hl _ _ e1 e2,hm.ke.E e3.bel e3⟩
 |vec l e sz st=>obtain⟨k1,k2,h3⟩:=h;refine⟨k1,k2,?_⟩;rcases h3 with⟨h3,h4⟩|⟨i,l',e1,e2,e3⟩;exact .inl ⟨h3,by rw[gX,h4]⟩;exact .inr ⟨i,l',by rw[gX,e1],hl _ _ e1 e2,hm.ke.E e3.bel e3⟩
 |map es cl=>obtain⟨i,es',e1,e2,e3⟩:=h;exact⟨i,es',by rw[gX,e1],hl _ _ e1 e2,relm e3⟩
def mQ.not1{i:Nat}(h:mQ x k b)(hi:x.Y k=some i){row:Z A}{e:O}:lk x.s.h i≠some (.inl (row,e,1)):=by
 intro hl;cases b with
 |row l e'=>obtain⟨_,i',l',e1,e2,_⟩:=h;rw[hi]at e1;cases e1;rw[hl]at e2;cases e2
 |vec l e' sz st=>obtain⟨_,_,h3⟩:=h;rcases h3 with⟨_,h4⟩|⟨i',l',e1,e2,_⟩;rw[hi]at h4;cases h4;rw[hi]at e1;cases e1;rw[hl]at e2;cases e2
 |map es cl=>obtain⟨i',es',e1,e2,_⟩:=h;rw[hi]at e1;cases e1;rw[hl]at e2;cases e2
def step1{y:Cx}(hx:i8 x)(K:Nat)(bK:B)(hn:x.X.nx<=y.X.nx)(hK:K<y.X.nx)(tO:∀k,k≠K->gt y.X.h k=gt x.X.h k/\y.Y k=x.Y k)(gP:gt y.X.h K=some bK)
  (mA:(∃b0,gt x.X.h K=some b0/\b0.st<=bK.st/\(b0.st=bK.st->y.Y K=x.Y K/\∀l e sz st,b0=.vec l e sz st->∃l',bK=.vec l' e sz st))\/(gt x.X.h K=none/\x.X.nx<=K)) (vO:∀i b,lk x.s.h i=some b->(∀c,gt x.X.h K=some c->x.Y K≠some i)->lk y.s.h i=some b)
  (qI:∀i,y.Y K=some i->(∃c,gt x.X.h K=some c/\x.Y K=some i)\/x.s.nx<=i) (fU:∀i b,lk y.s.h i=some b->i<y.s.nx) (hB:Mo x.X.nx x y->mQ y K bK):Out x y:=by
 have eY:Mo x.X.nx x y:=by refine⟨fun k hk _=>⟨by omega,fun b' bV=>?_⟩,fun i row e hl=>vO i _ hl fun c hc he=>(hx.ok K c hc).2.not1 he hl⟩;by_cases e:k=K;subst e;rw[gP]at bV;cases bV;rcases mA with⟨b0,h1,h2,h3⟩|⟨_,h2⟩;exact⟨b0,h1,h2,h3⟩;omega;obtain⟨h1,h2⟩:=tO k e;exact⟨b',by rw[<-h1,bV],zF _,fun _=>⟨h2,fun l e sz st h=>⟨l,h⟩⟩⟩
 have cT:∀k b i c,k≠K->gt x.X.h k=some b->x.Y k=some i->gt x.X.h K=some c->x.Y K≠some i:=fun k b i c hk hb hi hc he=>hk (hx.inj k K b c i hb hc hi he);refine⟨⟨fun k b hb=>?_,fun k k' b b' i hb bV hi gU=>?_,fU⟩,eY,fun F J i b hb=>?_⟩;by_cases e:k=K;subst e;rw[gP]at hb;cases hb;exact⟨hK,hB eY⟩;obtain⟨h1,h2⟩:=tO k e;rw[h1]at hb;obtain⟨h3,h4⟩:=hx.ok k b hb;exact⟨by omega,h4.mono eY h2 fun i c hi hl=>vO i c hl fun d hd=>cT k b i d e hb hi hd⟩;have own:∀k b i,k≠K->gt y.X.h k=some b->y.Y k=some i->gt x.X.h k=some b/\x.Y k=some i/\i<x.s.nx:=fun k b i e hb hi=>by
  obtain⟨h1,h2⟩:=tO k e;rw[h1]at hb;rw[h2]at hi;refine⟨hb,hi,?_⟩;have:=(hx.ok k b hb).2;cases b with
  |row l e=>obtain⟨_,i',l',e1,e2,_⟩:=this;rw[hi]at e1;cases e1;exact hx.bd _ _ e2
  |vec l e' sz st=>obtain⟨_,_,h3⟩:=this;rcases h3 with⟨_,h4⟩|⟨i',l',e1,e2,_⟩;rw[hi]at h4;cases h4;rw[hi]at e1;cases e1;exact hx.bd _ _ e2
  |map es cl=>obtain⟨i',es',e1,e2,_⟩:=this;rw[hi]at e1;cases e1;exact hx.bd _ _ e2
 by_cases e:k=K;by_cases e':k'=K;rw[e,e'];exfalso;subst e;obtain⟨q1,q2,q3⟩:=own k' b' i e' bV gU;rcases qI i hi with⟨c,hc,lI⟩|AY;exact e' (hx.inj k' k b' c i q1 hc q2 lI);omega;by_cases e':k'=K;exfalso;subst e';obtain⟨q1,q2,q3⟩:=own k b i e hb hi;rcases qI i gU with⟨c,hc,lI⟩|AY;exact e (hx.inj k k' b c i q1 hc q2 lI);omega;obtain⟨q1,q2,_⟩:=own k b i e hb hi;obtain⟨q3,q4,_⟩:=own k' b' i e' bV gU;exact hx.inj k k' b b' i q1 q3 q2 q4;obtain⟨h1,h2⟩:=J i b hb;refine⟨vO i b h1 fun c hc=>h2 K c hc,fun k c hc hi=>?_⟩;by_cases e:k=K;subst e;rcases qI i hi with⟨d,hd,bB⟩|AY;exact h2 k d hd bB;have:=hx.bd i b h1;omega;obtain⟨q1,q2⟩:=tO k e;rw[q1]at hc;rw[q2]at hi;exact h2 k c hc hi
def lB(Y:Nat->I Nat)(k:Nat)(o:I Nat):Nat->I Nat:=fun j=>if j=k then o else Y j
def fh(Y:Nat->I Nat)(k:Nat)(o:I Nat):lB Y k o k=o:=by simp[lB]
def eh(Y:Nat->I Nat){j:Nat}(o:I Nat)(h:j≠k):lB Y k o j=Y j:=by simp[lB,h]
def SJ(hx:i8 x):gt x.X.h x.X.nx=none:=by rcases h:gt x.X.h x.X.nx with _|b;rfl;have:=(hx.ok _ b h).1;omega
def ao(hx:i8 x)(b:B)(c:lJ)(hB:∀y:Cx,y.Y x.X.nx=some x.s.nx->lk y.s.h x.s.nx=some c->Mo x.X.nx x y->mQ y x.X.nx b):
  Out x ⟨lB x.Y x.X.nx (some x.s.nx),newU x.X b,⟨(x.s.nx,c)::x.s.h,x.s.nx+1⟩⟩:=by refine step1 hx x.X.nx b (by simp[newU]) (by simp[newU]) (fun k hk=>⟨by simp[newU,aQ,Ne.symm hk],eh _ _ hk⟩) (by simp[newU,aQ]) (.inr ⟨SJ hx,zF _⟩) (fun i d hd _=>?_) (fun i hi=>?_) (fun i d hd=>?_) (fun hm=>?_);have:=hx.bd i d hd;simp[lQ,show x.s.nx≠i by omega,hd];change lB _ _ _ _=some i at hi;rw[fh]at hi;cases hi;exact .inr (zF _);simp only[lQ]at hd;split at hd;show i<x.s.nx+1;omega;exact Nat.lt_succ_of_lt (hx.bd i d hd);exact hB _ (by simp[lB]) (by simp[lQ]) hm
def fg(hx:i8 x)(e:O)(sz:Nat)(eA:0<sz):Out x ⟨lB x.Y x.X.nx none,newU x.X (.vec [] e sz 0),x.s⟩:=by refine step1 hx x.X.nx (.vec [] e sz 0) (by simp[newU]) (by simp[newU]) (fun k hk=>⟨by simp[newU,aQ,Ne.symm hk],eh _ _ hk⟩) (by simp[newU,aQ]) (.inr ⟨SJ hx,zF _⟩) (fun i d hd _=>hd) (fun i hi=>?_) hx.bd (fun hm=>?_);change lB _ _ _ _=some i at hi;rw[fh]at hi;cases hi;exact⟨rfl,eA,.inl ⟨rfl,by simp[lB]⟩⟩
def Md{c:lJ}{st:Nat}(c9:b.st=st){p:I Nat->Prop}(hp:p (some x.s.nx)):Ref ⟨lB x.Y x.X.nx (some x.s.nx),newU x.X b,⟨(x.s.nx,c)::x.s.h,x.s.nx+1⟩⟩ x.X.nx st p:=by refine⟨by simp[newU],fun b' bV=>?_⟩;simp only[newU,aQ,if_true,zA]at bV;subst bV;exact⟨Nat.le_of_eq c9.symm,fun _=>by simpa[lB]using hp⟩
def Fg(hx:i8 x){K i:Nat}{b0 bK:B}{c:lJ}(h0:gt x.X.h K=some b0)(hi:x.Y K=some i){c0:lJ}(w4:lk x.s.h i=some c0)(c9:b0.st=bK.st)(hv:∀l e sz st,b0=.vec l e sz st->∃l',bK=.vec l' e sz st)
  (hB:∀y:Cx,y.Y K=some i->lk y.s.h i=some c->Mo x.X.nx x y->mQ y K bK):Out x ⟨x.Y,⟨ug x.X.h K bK,x.X.nx⟩,⟨up x.s.h i c,x.s.nx⟩⟩:=by refine step1 hx K bK (zF _) (hx.ok K _ h0).1 (fun k hk=>⟨by simp[c7,Ne.symm hk],rfl⟩) (by simp[c7,h0]) (.inl ⟨b0,h0,Nat.le_of_eq c9,fun _=>⟨rfl,hv⟩⟩) (fun j d hd cT=>?_) (fun j hj=>.inl ⟨b0,h0,hj⟩) (fun j d hd=>?_) (fun hm=>?_);have:i≠j:=fun e=>cT b0 h0 (by rw[hi,e]);simp[BV,this,hd];simp only[BV]at hd;split at hd;rename_i e;subst e;exact hx.bd i _ w4;exact hx.bd j d hd;exact hB _ hi (by simp[BV,w4]) hm
def Ft{zu:Z U}{z:Z A}(h:aX x zu z)(n:Nat):aX x (qV zu n) (bY z n):=by induction n with|zero=>exact aX.nil x|succ n ih=>simp only[qV,List.replicate_succ,List.flatten_cons,bY];exact h.append ih
def am{zu:Z U}(h:okL zu=true)(n:Nat):okL (qV zu n)=true:=by induction n with|zero=>rfl|succ n ih=>simp only[qV,List.replicate_succ,List.flatten_cons];exact MJ h ih
section
variable{T:Tb}{x:Cx}(hx:i8 x){tm:Z U}{tv:Z A}(ht:aX x tm tv)
include hx
def qx{l:Z U}{l':Z A}(hl:aX x l l')(hk:okL l=true)(e:O):Out x ⟨lB x.Y x.X.nx (some x.s.nx),newU x.X (.row l e),Rx.newRow x.s l' e 0⟩:=
 ao hx (.row l e) (.inl (l',e,0)) fun y h1 h2 hm=>⟨hk,x.s.nx,l',h1,h2,hm.ke.E hl.bel hl⟩
def qw{l:Z U}{l':Z A}(hl:aX x l l')(hk:okL l=true)(e:O){sz:Nat}(eA:0<sz):Out x ⟨lB x.Y x.X.nx (some x.s.nx),newU x.X (.vec l e sz 0),Rx.newRow x.s l' e (sz+2)⟩:=
 ao hx (.vec l e sz 0) (.inl (l',e,sz+2)) fun y h1 h2 hm=>⟨hk,eA,.inr ⟨x.s.nx,l',h1,h2,hm.ke.E hl.bel hl⟩⟩
variable{t:O}
variable{r:U}
variable{X':Sg}
def z0i{p u:U}{pv uv:A}(h:WD T x.X t p u=some (r,X'))(hp:aB x p pv)(hu:aB x u uv):
  ∃v y,Dw T x.s t pv uv=some (v,y.s)/\y.X=X'/\aB y r v/\Out x y:=by
 unfold WD at h;cases p with
 |ptr k st off=>
  simp only at h;rcases hs:c6 T t with _|n;simp[hs]at h;simp only[hs]at h;rcases hc:uG u with _|cs;simp[hc]at h;simp only[hc]at h;obtain⟨c1,c2⟩:=ie hu hc;rcases aN:Nat.beq cs.length n with _|_;simp[aN]at h;simp only[aN,zC,c2]at h;rcases dD:cellsOf x.X k st with _|l;simp[dD]at h;simp only[dD]at h;obtain⟨i,lv,e,md,q1,rfl,q2,q3,q4,q5,q6⟩:=qia hx dD hp;have c1':=z8u (X:=x.X) (k:=k) c1;have c2':okL (DN x.X k cs)=true:=by rw[UL];exact c2
  rcases hput:o6 l off (DN x.X k cs)with _|l1;simp[hput]at h;simp only[hput]at h;obtain⟨rv,p1,p2,p3⟩:=Yz hput q4 c1';have p4:=p3 q5 c2';have c9:Dw T x.s t (.pointer (some ⟨i,off,none⟩)) uv=some (undef,⟨up x.s.h i (.inl (rv,e,md)),x.s.nx⟩):=by
   have nW:cE x.s i=some (lv,e,md):=by unfold cE;rcases q6 with⟨rfl,_⟩|⟨sz,rfl,_⟩<;>simp[q2]
   simp only[Dw,hs];rw[<-c1.2,aN];simp only[zC,QK c1 c2,nW,p1]
  rcases q6 with⟨rfl,hg⟩|⟨sz,rfl,hz,hg⟩;simp only[JH,hg,zA,zB]at h;obtain⟨rfl,rfl⟩:=h;exact⟨undef,⟨x.Y,⟨ug x.X.h k (.row l1 e),x.X.nx⟩,⟨up x.s.h i (.inl (rv,e,0)),x.s.nx⟩⟩,c9,rfl,by simp[aB],Fg hx hg q1 q2 rfl (by simp) fun y h1 h2 hm=>⟨p4,i,rv,h1,h2,hm.ke.E p2.bel p2⟩⟩;simp only[JH,hg,zA,zB]at h;obtain⟨rfl,rfl⟩:=h;exact⟨undef,⟨x.Y,⟨ug x.X.h k (.vec l1 e sz st),x.X.nx⟩,⟨up x.s.h i (.inl (rv,e,sz+2)),x.s.nx⟩⟩,c9,rfl,by simp[aB],Fg hx hg q1 q2 rfl (by rintro l e sz st h;cases h;exact⟨_,rfl⟩) fun y h1 h2 hm=>⟨p4,hz,.inr ⟨i,rv,h1,h2,hm.ke.E p2.bel p2⟩⟩⟩
 |_=>simp at h
def qpy{n:Nat}{ps:Z (Nat×U)}{pv:Z (Nat×A)}(h:Nr T x.X t n ps=some (r,X'))(hp:WC x ps pv):∃v y,Np T x.s t n pv=some (v,y.s)/\y.X=X'/\aB y r v/\Out x y:=by
 unfold Nr at h;rcases hd:T.und t with _|d;simp[hd]at h;cases d with
 |slice e=>
  simp only[hd]at h;rcases hi:T.inf e with _|q;simp[hi]at h;obtain⟨sz,by_,z⟩:=q;simp only[hi]at h;rcases h1:Nat.ble (n*sz) 16777216 with _|_;simp[h1]at h;simp only[h1,zC]at h;rcases h2:Nat.ble n 16777216 with _|_;simp[h2]at h;simp only[h2,zC]at h;rcases h3:Nat.beq z.cells.toList.length sz with _|_;simp only[h3,zD]at h;cases h;simp only[h3,zC]at h;rcases h4:nH z.cells.toList with _|zu;simp[h4]at h;simp only[h4]at h;have oN:=(M4 _ _ h4).2 x;rcases h5:pT (fun i=>some (i*sz,sz)) (qV zu n) ps with _|cs;simp[h5]at h;simp only[h5]at h;rcases h6:okL cs with _|_;simp[h6]at h;simp only[h6,zC,zA,zB]at h;obtain⟨rfl,rfl⟩:=h;obtain⟨rv,f1,f2⟩:=Nf hp (Ft oN n) h5;have gH:n<bP:=by have:=zY h2;unfold bP;omega
  refine⟨.slice (some ⟨x.s.nx,0,none⟩) n n,_,?_,rfl,?_,qx hx f2 h6 e⟩;simp only[Np,hd,hi,h1,h3,zC,f1,oL gH];simp only[aB];exact⟨rfl,Md rfl ⟨x.s.nx,rfl,rfl,gH,zF _⟩⟩
 |_=>simp[hd]at h
def z37{a b:U}{va vb:A}(h:Kw T x.X t a b=some (r,X'))(ha:aB x a va)(hb:aB x b vb):∃v y,Ku T x.s t va vb=some (v,y.s)/\y.X=X'/\aB y r v/\Out x y:=by
 unfold Kw at h;rcases hd:T.und t with _|d;simp[hd]at h;cases d with
 |slice e=>
  cases a with
  |int ka a=>
   cases b with
   |int kb b=>
    simp only[aB]at ha hb;subst ha;subst hb;simp only[hd]at h;rcases hi:T.inf e with _|q;simp[hi]at h;obtain⟨sz,by_,z⟩:=q;simp only[hi]at h;rcases h4:nH z.cells.toList with _|zu;simp[h4]at h;simp only[h4]at h;have oN:=(M4 _ _ h4).2 x;rcases h6:okL zu with _|_;simp[h6]at h;simp only[h6,zC]at h;rcases h3:Nat.beq z.cells.toList.length sz with _|_;simp only[h3,zD]at h;cases h;simp only[h3,zC]at h;split at h;rename_i hc;simp only[zA,zB]at h;obtain⟨rfl,rfl⟩:=h;obtain⟨c1,c2,c3,c4⟩:=hc;have Hu:IntKind.i64.wrap a=Int.ofNat a.toNat:=by rw[oA (by omega) (by omega)];simp;omega
    have Sh:IntKind.i64.wrap b=Int.ofNat b.toNat:=by rw[oA (by omega) (by omega)];simp;omega
    have gH:b.toNat<bP:=by unfold bP;omega
    refine⟨.slice (some ⟨x.s.nx,0,none⟩) a.toNat b.toNat,_,?_,rfl,?_,qx hx (Ft (Ly oN) b.toNat) (am (by rw[Dv];exact h6) _) e⟩;simp only[Ku,hd,hi,Hu,Sh,h3,zC,oL gH,Nat.ble_eq_true_of_le c3,Nat.ble_eq_true_of_le (show a.toNat<=b.toNat by omega)];simp only[aB];exact⟨rfl,Md rfl ⟨x.s.nx,rfl,rfl,gH,by omega⟩⟩;cases h
   |_=>simp[hd]at h
  |_=>simp[hd]at h
 |_=>simp[hd]at h
end
end Go.Vx
