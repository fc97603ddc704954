import Derived.IntWalk
import Derived.Test.YtldlchbgolpkaaaGreatP4
set_option linter.all false
namespace Go.Rx
open Go
def WP(P:Program)(c:Code)(tm:I M)(s:S)(Q:Exit->I M->S->Prop):Prop :=
 ∀m w a,iA m s w->xJ m s.nx tm a->a.defers=[]->
  c.wp P (fun e a' w'=>∃m' tm' s',Q e tm' s'/\bQ m s w m' s' w'/\xJ m' s'.nx tm' a'/\a'.defers=[]) a w
def Less(s s':S):Prop:=s.nx<=s'.nx/\∀i b,lk s'.h i=some b->lk s.h i=some b
def bQ.less{m:Nm}{s s':S}{w:World}(h:iA m s w)(hl:Less s s'):bQ m s w m s' w:=by refine⟨aN.refl _ _,hl.1,fun m' ha=>?_,?_,fun _ _ _=>rfl,zF _,rfl,rfl,rfl⟩;have hf:=h m' (ha.mono hl.1);exact⟨fun i b hb=>hf.ok i b (hl.2 i b hb),fun i j b c hb hc=>hf.inj i j b c (hl.2 i b hb) (hl.2 j c hc),fun i b hb=>Nat.lt_of_lt_of_le (hf.bd i b (hl.2 i b hb)) hl.1⟩;rintro k ⟨j,d,hd,ho,rfl⟩;exact .inl ⟨j,d,hl.2 j d hd,ho,rfl⟩
def wrap_i64{x:Int}(h1 : -9223372036854775808<=x)(h2:x<=9223372036854775807):IntKind.i64.wrap x=x:=IntWalk.i64_in x ⟨h1,h2⟩
section
variable{P:Program}{Q:Exit->I M->S->Prop}{tm:I M}{s:S}
def WP.exit{id:Nat}(h:Q (.exit id) tm s):WP P (.exit id) tm s Q:=fun m _ _ hf ha hd=>wp_exit ⟨m,tm,s,h,bQ.refl hf,ha,hd⟩
def qyv(id:Nat)(Q:Exit->I M->S->Prop):Exit->I M->S->Prop
 |.exit id',tm,s=>if id'=id then Q .normal tm s else Q (.exit id') tm s|e,tm,s=>Q e tm s
def WP.block{id:Nat}{c:Code}(h:WP P c tm s (qyv id Q)):WP P (.block id c) tm s Q:=fun m w a hf ha hd=>by
 refine wp_block (wp_mono (h m w a hf ha hd) ?_);rintro e a' w' ⟨m',tm',s',h1,h2,h3,h4⟩;cases e with
 |exit id'=>simp[Exit.inBlock];simp[qyv]at h1;by_cases KH:id'=id;simp[KH,if_true]at h1 ⊢;exact⟨m',tm',s',h1,h2,h3,h4⟩;simp[KH,if_false]at h1 ⊢;exact⟨m',tm',s',h1,h2,h3,h4⟩|_=>exact⟨m',tm',s',h1,h2,h3,h4⟩
variable{T:Tb}(hT:lP P T){call:GS}(hC:Gp P call)
include hT hC
end
def p0(tm:I M)(op:Op):V M :=
 match op with
 |.move x=>evalO tm x|.assign x=>evalO tm x
 |.pick c a b=>match evalO tm c with
  |some (.bool true)=>evalO tm a|some (.bool false)=>evalO tm b
  |_=>none
 |.nilCheck x=>match evalO tm x with
  |some (.pointer (some a))=>some (.pointer (some a))|_=>none
 |.binOp op _ x y _=>match evalO tm x,evalO tm y with
  |some (.int k a),some (.int k' b)=>kR op k a k' b|_,_=>none
 |.unOp op _ x=>match evalO tm x with
  |some a=>RP op a|none=>none
 |.makeFunc fn first cap=>match kS tm first.toList,kS tm cap.toList with
  |some a,some b=>some (.func fn a.toArray b.toArray)|_,_=>none
 |.extract x i=>match evalO tm x with
  |some a=>Hg a i|none=>none
 |.call c=>match c.callee with
  |.builtin .max=>match kS tm c.args.toList with
   |some (x::l)=>yE SG x l|_=>none
  |.builtin .min=>match kS tm c.args.toList with
   |some (x::l)=>yE SF x l|_=>none
  |_=>none
 |_=>none
section
variable{T:Tb}{call:GS}{a9 rest:I Oper}{o:Oper}{tm:I M}{s:S}{K:I M->S->Prop}
end
section
variable{P:Program}{Q:Exit->I M->S->Prop}{tm:I M}{s:S}{T:Tb}(hT:lP P T){call:GS}(hC:Gp P call)
include hT hC
end
end Go.Rx
namespace Go.Vx
open Go Go.Rx
inductive U where
 |junk
 |bool (b:Bool)
 |int (k:IntKind) (n:Int)
 |str (s:List UInt8)
 |nilp
 |ptr (k st off:Nat)
 |iptr (l:List U)
 |nils
 |sl (k off n c:Nat)
 |vl (k st off n:Nat)
 |isl (t:Bool) (l:List (List U))
 |nilm
 |map (k:Nat)
 |fn (f:Fn) (first cap:List U)
 |nilf
 |nili
 |agg (l:List U)
 |tup (l:List U)
 deriving Inhabited
def okC:U->Bool
 |.junk=>false|.agg _=>false
 |.tup _=>false|_=>true
def okL:I U->Bool
 |[]=>true|u::l=>cond (okC u) (okL l) false
def OM(l:I U):okL l=true↔∀u∈l,okC u=true:=by induction l with|nil=>simp[okL]|cons u l ih=>cases h:okC u<;>simp[okL,h,ih]
structure ME where
 key:U
 val:U
 born:Nat
inductive B where
 |row (l:List U) (e:TypeId)
 |vec (l:List U) (e:TypeId) (sz st:Nat)
 |map (es:List ME) (cl:Nat)
structure Sg where
 h:I (Nat×B)
 nx:Nat
def gt:I (Nat×B)->Nat->V B
 |[],_=>none|(j,b)::h,i=>cond (Nat.beq j i) (some b) (gt h i)
def ug:I (Nat×B)->Nat->B->I (Nat×B)
 |[],_,_=>[]|(j,b)::h,i,c=>cond (Nat.beq j i) ((j,c)::h) ((j,b)::ug h i c)
def rg:I (Nat×B)->Nat->I (Nat×B)
 |[],_=>[]|(j,b)::h,i=>cond (Nat.beq j i) (rg h i) ((j,b)::rg h i)
def eA(j:Nat)(b:B)(h:I (Nat×B))(i:Nat):gt ((j,b)::h) i=if j=i then some b else gt h i:=by simp only[gt,beq_eq];by_cases e:j=i<;>simp[e]
def BN(h:I (Nat×B))(i:Nat)(c:B)(j:Nat):gt (ug h i c) j=if i=j then(gt h i).map (fun _=>c)else gt h j:=by induction h with|nil=>simp[ug,gt]|cons x h ih=>have⟨k,b⟩:=x;simp[ug,beq_eq];by_cases e:k=i;subst e;simp[yC,zC,eA];by_cases e2:k=j<;>simp[e2];simp[e,yB,zD,eA,ih];by_cases e2:i=j;subst e2;simp[e];by_cases e3:k=j<;>simp[e2,e3]
def gt_rg(h:I (Nat×B))(i j:Nat):gt (rg h i) j=if i=j then none else gt h j:=by induction h with|nil=>simp[rg,gt]|cons x h ih=>have⟨k,b⟩:=x;simp[rg,beq_eq];by_cases e:k=i;subst e;simp[yC,zC,eA,ih];by_cases e2:k=j<;>simp[e2];simp[e,yB,zD,eA,ih];by_cases e2:i=j;subst e2;simp[e];by_cases e3:k=j<;>simp[e2,e3]
def B.st:B->Nat
 |.vec _ _ _ st=>st|_=>0
structure Cx where
 Y:Nat->V Nat
 O:Sg
 s:S
def Ref(x:Cx)(k st:Nat)(p:V Nat->Prop):Prop:=k<x.O.nx/\∀b,gt x.O.h k=some b->st<=b.st/\(st=b.st->p (x.Y k))
def LW(off n:Nat)(v:M)(sz:Nat):V Nat->Prop
 |none=>off=0/\n=0/\∃o,v=.slice o 0 0/\∀a,o=some a->a.spot=none|some i=>(0<off/\n=0/\∃a c,v=.slice (some a) 0 c/\a.spot=none)\/v=.slice (some ⟨i,off*sz,none⟩) n (bY+off)
mutual
def aD(x:Cx):U->M->Prop
 |.junk,_=>True|.bool b,v=>v=.bool b
 |.int k n,v=>v=.int k n|.str l,v=>v=.string ⟨⟨l⟩⟩
 |.nilp,v=>v=.pointer none|.ptr k st off,v=>v.oneCell'=true/\Ref x k st fun o=>∃i,o=some i/\v=.pointer (some ⟨i,off,none⟩)
 |.iptr l,v=>∃i off row e,v=.pointer (some ⟨i,off,none⟩)/\lk x.s.h i=some (.inl (row,e,1))/\cU x l (row.drop off)/\okL l=true|.nils,v=>v=.slice none 0 0
 |.sl k off n c,v=>v.oneCell'=true/\Ref x k 0 fun o=>∃i,o=some i/\v=.slice (some ⟨i,off,none⟩) n c/\c<bY/\n<=c
 |.vl k st off n,v=>v.oneCell'=true/\k<x.O.nx/\∀b,gt x.O.h k=some b->st<=b.st/\(st=b.st->∃l e sz,b=.vec l e sz st/\LW off n v sz (x.Y k))|.isl t l,v=>(l=[]/\(v=.slice none 0 0\/∃r,v=.chan (some r)))\/∃i off c,v=.slice (some ⟨i,off,none⟩) l.length c/\(t=true->c=l.length/\c<bY)/\
   (l=[]\/∃row e sz,lk x.s.h i=some (.inl (row,e,1))/\iV x sz l (row.drop off)/\ ((c<bY/\l.length<=c)\/(bY<=c/\e=sz+1/\0<sz/\off=bR c*sz/\off+l.length*sz<=row.length)))
 |.nilm,v=>v=.map none|.map k,v=>v.oneCell'=true/\Ref x k 0 fun o=>∃i,o=some i/\v=.map (some i)
 |.fn f a b,v=>∃va vb,v=.func f ⟨va⟩ ⟨vb⟩/\cU x a va/\a.length=va.length/\cU x b vb/\b.length=vb.length|.nilf,v=>v=.nilFunc
 |.nili,v=>v=.nilIface|.agg l,v=>∃vs,v=.agg ⟨vs⟩/\cU x l vs/\l.length=vs.length/\okL l=true
 |.tup l,v=>∃vs,v=.tuple ⟨vs⟩/\cU x l vs/\l.length=vs.length
def cU(x:Cx):I U->I M->Prop
 |[],_=>True|u::us,vs=>match vs with
  |[]=>False|v::vs=>aD x u v/\cU x us vs
def iV(x:Cx)(sz:Nat):I (I U)->I M->Prop
 |[],_=>True|c::cs,vs=>c.length=sz/\okL c=true/\cU x c vs/\iV x sz cs (vs.drop sz)
end
mutual
def bC(n:Nat):U->Prop
 |.ptr k _ _=>k<n|.sl k _ _ _=>k<n
 |.vl k _ _ _=>k<n|.map k=>k<n
 |.iptr l=>aL n l|.isl _ l=>mV n l
 |.fn _ a b=>aL n a/\aL n b|.agg l=>aL n l
 |.tup l=>aL n l|_=>True
def aL(n:Nat):I U->Prop
 |[]=>True|u::us=>bC n u/\aL n us
def mV(n:Nat):I (I U)->Prop
 |[]=>True|c::cs=>aL n c/\mV n cs
end
def J8(x:Cx):∀(l:I U)(vs:I M),cU x l vs↔∀(i:Nat)(u:U),l[i]? = some u->∃v,vs[i]? = some v/\aD x u v
 |[],vs=>by simp[cU]
 |u::us,[]=>by simp only[cU,false_iff];intro h;have⟨v,hv,_⟩:=h 0 u rfl;simp at hv
 |u::us,v::vs=>by
  simp[cU,J8 x us vs];constructor;rintro⟨h1,h2⟩ i w hi;cases i with
  |zero=>simp at hi;subst hi;exact⟨v,rfl,h1⟩|succ i=>simp at hi;simpa using h2 i w hi
  intro h;refine⟨?_,fun i w hi=>by simpa using h (i+1) w (by simpa using hi)⟩;have⟨v',h1,h2⟩:=h 0 u rfl;simp at h1;subst h1;exact h2
def EV(n:Nat):∀l:I U,aL n l↔∀u∈l,bC n u
 |[]=>by simp[aL]
 |u::us=>by simp[aL,EV n us]
def qyc(n:Nat):∀l:I (I U),mV n l↔∀c∈l,aL n c
 |[]=>by simp[mV]
 |u::us=>by simp[mV,qyc n us]
structure Mo(n:Nat)(x y:Cx):Prop where
 ref:∀k,k<n->k<x.O.nx->k<y.O.nx/\∀b',gt y.O.h k=some b'->∃b,gt x.O.h k=some b/\b.st<=b'.st/\(b.st=b'.st->y.Y k=x.Y k/\∀l e sz st,b=.vec l e sz st->∃l',b'=.vec l' e sz st)
 imm:∀i row e,lk x.s.h i=some (.inl (row,e,1))->lk y.s.h i=some (.inl (row,e,1))
variable{n:Nat}
variable{x:Cx}
variable{y:Cx}
def Mo.ref'(h:Mo n x y){k st:Nat}{p:V Nat->Prop}(hk:k<n)(hr:Ref x k st p):Ref y k st p:=by
 have⟨h1,h2⟩:=hr;have⟨g1,g2⟩:=h.ref k hk h1;refine⟨g1,fun b' cV=>?_⟩;have⟨b,e1,e2,e3⟩:=g2 b' cV;have⟨e4,e5⟩:=h2 b e1;refine⟨Nat.le_trans e4 e2,fun e=>?_⟩;have:b.st=b'.st:=by omega
 rw[(e3 this).1];exact e5 (by omega)
mutual
def aD.mono{n:Nat}{x y:Cx}(h:Mo n x y):(u:U)->(v:M)->bC n u->aD x u v->aD y u v
 |.junk,v,_,_=>by simp[aD]
 |.bool b,v,_,hr=>by simpa[aD]using hr
 |.int k z,v,_,hr=>by simpa[aD]using hr
 |.str l,v,_,hr=>by simpa[aD]using hr
 |.nilp,v,_,hr=>by simpa[aD]using hr
 |.ptr k st off,v,hb,hr=>by simp only[aD]at*;exact⟨hr.1,h.ref' (by simpa[bC]using hb) hr.2⟩
 |.iptr l,v,hb,hr=>by simp only[aD]at*;obtain⟨i,off,row,e,h1,h2,h3,h4⟩:=hr;exact⟨i,off,row,e,h1,h.imm _ _ _ h2,cU.mono h l _ (by simpa[bC]using hb) h3,h4⟩
 |.nils,v,_,hr=>by simpa[aD]using hr
 |.sl k off m c,v,hb,hr=>by simp[aD]at*;exact⟨hr.1,h.ref' (by simpa[bC]using hb) hr.2⟩
 |.vl k st off m,v,hb,hr=>by
  simp[aD]at*;have⟨h0,h1,h2⟩:=hr;have⟨g1,g2⟩:=h.ref k (by simpa[bC]using hb) h1;refine⟨h0,g1,fun b' cV=>?_⟩;have⟨b,e1,e2,e3⟩:=g2 b' cV;have⟨e4,e5⟩:=h2 b e1;refine⟨Nat.le_trans e4 e2,fun e=>?_⟩;have e6:b.st=b'.st:=by omega
  have⟨l,e',sz,e7,e8⟩:=e5 (by omega);have⟨e9,e10⟩:=e3 e6;have⟨l',e11⟩:=e10 _ _ _ _ e7;rw[e9];exact⟨l',e',sz,e11,e8⟩
 |.isl t l,v,hb,hr=>by simp only[aD]at*;rcases hr with hr |⟨i,off,c,h1,h2,h3⟩;exact .inl hr;refine .inr ⟨i,off,c,h1,h2,?_⟩;rcases h3 with h3 |⟨row,e,sz,g1,g2,g3⟩;exact .inl h3;exact .inr ⟨row,e,sz,h.imm _ _ _ g1,iV.mono h l _ (by simpa[bC]using hb) g2,g3⟩
 |.nilm,v,_,hr=>by simpa[aD]using hr
 |.map k,v,hb,hr=>by simp[aD]at*;exact⟨hr.1,h.ref' (by simpa[bC]using hb) hr.2⟩
 |.fn f a b,v,hb,hr=>by simp[aD]at*;have⟨va,vb,h1,h2,h3,h4,h5⟩:=hr;simp[bC]at hb;exact⟨va,vb,h1,cU.mono h a _ hb.1 h2,h3,cU.mono h b _ hb.2 h4,h5⟩
 |.nilf,v,_,hr=>by simpa[aD]using hr
 |.nili,v,_,hr=>by simpa[aD]using hr
 |.agg l,v,hb,hr=>by simp[aD]at*;have⟨vs,h1,h2,h3⟩:=hr;exact⟨vs,h1,cU.mono h l _ (by simpa[bC]using hb) h2,h3⟩
 |.tup l,v,hb,hr=>by simp[aD]at*;have⟨vs,h1,h2,h3⟩:=hr;exact⟨vs,h1,cU.mono h l _ (by simpa[bC]using hb) h2,h3⟩
def cU.mono{n:Nat}{x y:Cx}(h:Mo n x y):(l:I U)->(vs:I M)->aL n l->cU x l vs->cU y l vs
 |[],_,_,_=>by simp[cU]
 |u::us,[],_,hr=>by simp[cU]at hr
 |u::us,v::vs,hb,hr=>by simp[cU,aL]at*;exact⟨aD.mono h u v hb.1 hr.1,cU.mono h us vs hb.2 hr.2⟩
def iV.mono{n sz:Nat}{x y:Cx}(h:Mo n x y):(l:I (I U))->(vs:I M)->mV n l->iV x sz l vs->iV y sz l vs
 |[],_,_,_=>by simp[iV]
 |c::cs,vs,hb,hr=>by simp[iV,mV]at*;exact⟨hr.1,hr.2.1,cU.mono h c vs hb.1 hr.2.2.1,iV.mono h cs _ hb.2 hr.2.2.2⟩
end
mutual
def aD.bel{x:Cx}:(u:U)->(v:M)->aD x u v->bC x.O.nx u
 |.ptr k st off,v,hr=>by simp[aD,bC]at*;exact hr.2.1
 |.sl k off m c,v,hr=>by simp[aD,bC]at*;exact hr.2.1
 |.vl k st off m,v,hr=>by simp[aD,bC]at*;exact hr.2.1
 |.map k,v,hr=>by simp only[aD,bC]at*;exact hr.2.1
 |.iptr l,v,hr=>by simp only[aD,bC]at*;obtain⟨i,off,row,e,h1,h2,h3,_⟩:=hr;exact cU.bel l _ h3
 |.isl t l,v,hr=>by simp[aD,bC]at*;rcases hr with⟨rfl,_⟩|⟨i,off,c,h1,h2,h3⟩;simp[mV];rcases h3 with rfl |⟨row,e,sz,g1,g2,_⟩;simp[mV];exact iV.bel l _ g2
 |.fn f a b,v,hr=>by simp[aD,bC]at*;have⟨va,vb,h1,h2,h3,h4,h5⟩:=hr;exact⟨cU.bel a _ h2,cU.bel b _ h4⟩
 |.agg l,v,hr=>by simp[aD,bC]at*;have⟨vs,h1,h2,h3⟩:=hr;exact cU.bel l _ h2
 |.tup l,v,hr=>by simp[aD,bC]at*;have⟨vs,h1,h2,h3⟩:=hr;exact cU.bel l _ h2
 |.junk,_,_=>by simp[bC]
 |.bool _,_,_=>by simp[bC]
 |.int _ _,_,_=>by simp[bC]
 |.str _,_,_=>by simp[bC]
 |.nilp,_,_=>by simp[bC]
 |.nils,_,_=>by simp[bC]
 |.nilm,_,_=>by simp[bC]
 |.nilf,_,_=>by simp[bC]
 |.nili,_,_=>by simp[bC]
def cU.bel{x:Cx}:(l:I U)->(vs:I M)->cU x l vs->aL x.O.nx l
 |[],_,_=>by simp[aL]
 |u::us,[],hr=>by simp[cU]at hr
 |u::us,v::vs,hr=>by simp[cU,aL]at*;exact⟨aD.bel u v hr.1,cU.bel us vs hr.2⟩
def iV.bel{x:Cx}{sz:Nat}:(l:I (I U))->(vs:I M)->iV x sz l vs->mV x.O.nx l
 |[],_,_=>by simp[mV]
 |c::cs,vs,hr=>by simp[iV,mV]at*;exact⟨cU.bel c vs hr.2.2.1,iV.bel cs _ hr.2.2.2⟩
end
def bF(x:Cx)(l:I U)(vs:I M):Prop:=cU x l vs/\l.length=vs.length
variable{l:I U}
variable{vs:I M}
variable{u:U}
def bF.get(h:bF x l vs){i:Nat}(hu:l[i]? = some u):∃v,vs[i]? = some v/\aD x u v:=(J8 x l vs).1 h.1 i u hu
def bF.mk'(hl:l.length=vs.length)(h:∀(i:Nat)(u:U),l[i]? = some u->∃v,vs[i]? = some v/\aD x u v):bF x l vs:=⟨(J8 x l vs).2 h,hl⟩
def bF.nil(x:Cx):bF x [] []:=⟨by simp[cU],rfl⟩
def bF.cons{v:M}(h:aD x u v)(h':bF x l vs):bF x (u::l) (v::vs):=⟨by simp[cU,h,h'.1],by simp[h'.2]⟩
def bF.inv(h:bF x (u::l) vs):∃v vH,vs=v::vH/\aD x u v/\bF x l vH:=by have⟨h1,h2⟩:=h;rcases vs with _|⟨v,vs⟩;simp at h2;simp[cU]at h1;exact⟨v,vs,rfl,h1.1,h1.2,by simpa using h2⟩
def bF.nil_inv(h:bF x [] vs):vs=[]:=by have:=h.2;simpa using this.symm
def bF.append{a b:I U}{va vb:I M}(h:bF x a va)(h':bF x b vb):bF x (a++b) (va++vb):=by induction a generalizing va with|nil=>rw[h.nil_inv];exact h'|cons u a ih=>obtain⟨v,vs,rfl,h1,h2⟩:=h.inv;exact bF.cons h1 (ih h2)
def bF.drop{x:Cx}{a:I U}{va:I M}(h:bF x a va)(n:Nat):bF x (a.drop n) (va.drop n):=by refine bF.mk' (by simp[h.2]) fun i u hu=>?_;rw[List.getElem?_drop]at hu ⊢;exact h.get hu
def bF.take{x:Cx}{a:I U}{va:I M}(h:bF x a va)(n:Nat):bF x (a.take n) (va.take n):=by refine bF.mk' (by simp[h.2]) fun i u hu=>?_;rw[List.getElem?_take]at hu ⊢;split at hu;rename_i aE;simp[aE,if_true];exact h.get hu;cases hu
def bF.set{x:Cx}{a:I U}{va:I M}(h:bF x a va)(n:Nat){u:U}{v:M}(hu:aD x u v):bF x (a.set n u) (va.set n v):=by refine bF.mk' (by simp[h.2]) fun i w hw=>?_;rw[List.getElem?_set]at hw ⊢;split at hw;split at hw;cases hw;rename_i h1 h2;subst h1;rw[h.2]at h2;simp[h2,hu];cases hw;rename_i d5;simp[d5,if_false];exact h.get hw
def bF.mono{n:Nat}{x y:Cx}(h:Mo n x y){l:I U}{vs:I M}(hb:aL n l)(hr:bF x l vs):bF y l vs:=⟨cU.mono h l vs hb hr.1,hr.2⟩
def cU.takeE(h:cU x l vs):bF x l (vs.take l.length):=by
 refine bF.mk' ?_ fun i u hu=>?_;rcases Nat.lt_or_ge vs.length l.length with aE |wQ
 have hu:l[vs.length]? = some l[vs.length]:=by simp[aE]
 have⟨v,hv,_⟩:=(J8 x l vs).1 h _ _ hu;simp at hv;simp;omega;have⟨v,hv,hr⟩:=(J8 x l vs).1 h i u hu;have:i<l.length:=(zG.1 hu).1;exact⟨v,by rw[List.getElem?_take];simp[this,hv],hr⟩
def cU.len(h:cU x l vs):l.length<=vs.length:=by have:=h.takeE.2;rw[List.length_take]at this;omega
def cU.drop{x:Cx}{l:I U}{vs:I M}(h:cU x l vs)(n:Nat):cU x (l.drop n) (vs.drop n):=by rw[J8]at*;intro i u hu;rw[List.getElem?_drop]at hu ⊢;exact h _ _ hu
def uE(x:Cx)(es:I ME)(vs:I MapEntry):Prop:=es.length=vs.length/\∀(i:Nat)(e:ME),es[i]? = some e->∃v:MapEntry,vs[i]? = some v/\aD x e.key v.key/\aD x e.val v.val/\v.born=e.born
def oS(x:Cx)(k:Nat):B->Prop
 |.row l e=>okL l=true/\∃i l',x.Y k=some i/\lk x.s.h i=some (.inl (l',e,0))/\bF x l l'|.vec l e sz _=>okL l=true/\0<sz/\(l=[]/\x.Y k=none\/∃i l',x.Y k=some i/\lk x.s.h i=some (.inl (l',e,sz+2))/\bF x l l')
 |.map es cl=>∃i es',x.Y k=some i/\lk x.s.h i=some (.inr (es',cl))/\uE x es es'
structure kM(x:Cx):Prop where
 ok:∀k b,gt x.O.h k=some b->k<x.O.nx/\oS x k b
 inj:∀k k' b b' i,gt x.O.h k=some b->gt x.O.h k'=some b'->x.Y k=some i->x.Y k'=some i->k=k'
 bd:∀i b,lk x.s.h i=some b->i<x.s.nx
def Fr(F:Nat->lU->Prop)(x:Cx):Prop:=∀i b,F i b->lk x.s.h i=some b/\∀k c,gt x.O.h k=some c->x.Y k≠some i
def Ke(n:Nat)(x y:Cx):Prop:=∀u v,bC n u->aD x u v->aD y u v
def Ke.refl(n:Nat)(x:Cx):Ke n x x:=fun _ _ _ h=>h
def Ke.trans{z:Cx}(h:Ke n x y)(h':Ke n y z):Ke n x z:=fun u v hb hr=>h' u v hb (h u v hb hr)
mutual
def bC.le{n k:Nat}(h:n<=k):(u:U)->bC n u->bC k u
 |.ptr a _ _,hb=>by simp[bC]at*;omega
 |.sl a _ _ _,hb=>by simp[bC]at*;omega
 |.vl a _ _ _,hb=>by simp[bC]at*;omega
 |.map a,hb=>by simp[bC]at*;omega
 |.iptr l,hb=>by simp[bC]at*;exact aL.le h l hb
 |.isl t l,hb=>by simp[bC]at*;exact mV.le h l hb
 |.fn f a b,hb=>by simp[bC]at*;exact⟨aL.le h a hb.1,aL.le h b hb.2⟩
 |.agg l,hb=>by simp[bC]at*;exact aL.le h l hb
 |.tup l,hb=>by simp[bC]at*;exact aL.le h l hb
 |.junk,_=>by simp[bC]
 |.bool _,_=>by simp[bC]
 |.int _ _,_=>by simp[bC]
 |.str _,_=>by simp[bC]
 |.nilp,_=>by simp[bC]
 |.nils,_=>by simp[bC]
 |.nilm,_=>by simp[bC]
 |.nilf,_=>by simp[bC]
 |.nili,_=>by simp[bC]
def aL.le{n k:Nat}(h:n<=k):(l:I U)->aL n l->aL k l
 |[],_=>by simp[aL]
 |u::us,hb=>by simp[aL]at*;exact⟨bC.le h u hb.1,aL.le h us hb.2⟩
def mV.le{n k:Nat}(h:n<=k):(l:I (I U))->mV n l->mV k l
 |[],_=>by simp[mV]
 |u::us,hb=>by simp[mV]at*;exact⟨aL.le h u hb.1,mV.le h us hb.2⟩
end
def Ke.le{n k:Nat}{x y:Cx}(h:Ke k x y)(hk:n<=k):Ke n x y:=fun u v hb hr=>h u v (bC.le hk u hb) hr
def Mo.ke(h:Mo n x y):Ke n x y:=fun u v hb hr=>aD.mono h u v hb hr
def Ke.E(h:Ke n x y)(hb:aL n l)(hr:bF x l vs):bF y l vs :=
 bF.mk' hr.2 fun i u hu=>by have⟨v,h1,h2⟩:=hr.get hu;exact⟨v,h1,h u v ((EV n l).1 hb u (zX hu)) h2⟩
def bF.bel{x:Cx}{l:I U}{vs:I M}(hr:bF x l vs):aL x.O.nx l:=cU.bel l vs hr.1
mutual
def toV:U->V M
 |.bool b=>some (.bool b)|.int k n=>some (.int k n)
 |.str s=>some (.string ⟨⟨s⟩⟩)|.nilp=>some (.pointer none)
 |.nils=>some (.slice none 0 0)|.nilm=>some (.map none)
 |.nilf=>some .nilFunc|.nili=>some .nilIface
 |.agg l=>cond (okL l) (match eY l with
  |some vs=>some (.agg ⟨vs⟩)|none=>none) none
 |_=>none
def eY:I U->V (I M)
 |[]=>some []|u::l=>match toV u with
  |some v=>(match eY l with
   |some vs=>some (v::vs)|none=>none)
  |none=>none
end
mutual
def iN:M->V U
 |.bool b=>some (.bool b)|.int k n=>some (.int k n)
 |.string s=>some (.str s.data.toList)|.pointer none=>some .nilp
 |.slice none n c=>match n,c with
  |0,0=>some .nils|_,_=>none
 |.map none=>some .nilm|.nilFunc=>some .nilf
 |.nilIface=>some .nili|.agg ⟨l⟩=>match qH l with
  |some us=>cond (okL us) (some (.agg us)) none|none=>none
 |_=>none
def qH:I M->V (I U)
 |[]=>some []|v::l=>match iN v with
  |some u=>(match qH l with
   |some us=>some (u::us)|none=>none)
  |none=>none
end
def xL:U->V (I U)
 |.junk=>none|.tup _=>none
 |.agg l=>some l|u=>some [u]
def c9(tm:I U):Operand->V U
 |.tmp t=>nth tm t|.const v=>iN v
 |.func f=>some (.fn (.func f) [] [])|.global _=>none
def mM(tm:I U):I Operand->V (I U)
 |[]=>some []|x::l=>match c9 tm x with
  |some v=>(match mM tm l with
   |some r=>some (v::r)|none=>none)
  |none=>none
def AN(tm:I U):I (Nat×Operand)->V (I (Nat×U))
 |[]=>some []|(i,x)::l=>match c9 tm x with
  |some v=>(match AN tm l with
   |some r=>some ((i,v)::r)|none=>none)
  |none=>none
def xK(tm:I U):V Operand->V (V M)
 |none=>some none|some x=>match c9 tm x with
  |some (.int k n)=>some (some (.int k n))|_=>none
def bW(O:Sg)(k st:Nat):Bool:=match gt O.h k with
 |some b=>Nat.beq b.st st|none=>false
def cellsOf(O:Sg)(k st:Nat):V (I U):=match gt O.h k with
 |some (.row l _)=>cond (Nat.beq 0 st) (some l) none|some (.vec l _ _ cT)=>cond (Nat.beq cT st) (some l) none
 |_=>none
def rowOf(O:Sg)(k:Nat):V (I U):=match gt O.h k with
 |some (.row l _)=>some l|_=>none
def wG(O:Sg)(k st:Nat):V (I U×X×Nat):=match gt O.h k with
 |some (.vec l e sz cT)=>cond (Nat.beq cT st) (some (l,e,sz)) none|_=>none
def M8(O:Sg)(k:Nat)(l:I U):V Sg:=match gt O.h k with
 |some (.row _ e)=>some ⟨ug O.h k (.row l e),O.nx⟩|some (.vec _ e sz st)=>some ⟨ug O.h k (.vec l e sz st),O.nx⟩
 |_=>none
def lB(l:I U)(off n:Nat):V (I U):=if off+n<=l.length then some ((l.drop off).take n)else none
def qG(l:I U)(off:Nat)(vs:I U):V (I U):=if off+vs.length<=l.length then some (l.take off++(vs++l.drop (off+vs.length)))else none
def zt(T:Tb)(t:X)(cs:I U)(off:Nat):V U :=
 match T.und t with
 |none=>none|some d=>cond (sE d) (match cO T t with
   |some n=>some (.agg ((cs.drop off).take n))|none=>none) (nth cs off)
def uY(place:Nat->V (Nat×Nat))(cells:I U):I (Nat×U)->V (I U)
 |[]=>some cells|(i,v)::rest=>match place i with
  |none=>none|some (off,size)=>match xL v with
   |none=>none|some cs=>cond (Nat.beq cs.length size) (match qG cells off cs with
    |some c=>uY place c rest|none=>none) none
def Gl(T:Tb)(t:X)(ps:I (Nat×U)):V U :=
 match T.inf t with
 |none=>none|some (_,_,z)=>match qH z.cells.toList with
  |none=>none|some zu=>match T.und t with
   |some (.struct fs)=>cond (J0 T fs.toList) (match uY (MD T fs.toList) zu ps with
    |some cs=>cond (okL cs) (some (.agg cs)) none|none=>none) none
   |some (.array _ e)=>(match cO T e with
    |none=>none|some n=>match uY (fun i=>some (i*n,n)) zu ps with
     |some cs=>cond (okL cs) (some (.agg cs)) none|none=>none)
   |_=>none
def g1(f:M->V M)(u:U):V U:=match toV u with
 |some v=>(match f v with
  |some r=>iN r|none=>none)
 |none=>none
def g2(f:M->M->V M)(a b:U):V U:=match toV a with
 |some x=>(match toV b with
  |some y=>(match f x y with
   |some r=>iN r|none=>none)
  |none=>none)
 |none=>none
def eU(O:Sg):U->Nat
 |.ptr k st _=>cond (bW O k st) 1 0|.iptr _=>1
 |.sl k _ _ _=>cond (bW O k 0) 2 0|.vl k st _ (_+1)=>cond (bW O k st) 2 0
 |.isl _ (_::_)=>2|.map k=>cond (bW O k 0) 3 0
 |_=>0
def ES:U->Nat
 |.nilp=>1|.nils=>2
 |.nilm=>3|_=>0
def uF(T:Tb)(t:X):Nat:=match T.und t with
 |some (.pointer _)=>1|some (.slice _)=>2
 |some (.map _ _)=>3|_=>0
def WE:BinOp->V U
 |.eql=>some (.bool false)|.neq=>some (.bool true)
 |_=>none
def OG(T:Tb)(O:Sg)(op:BinOp)(t:X)(x y:U):V U :=
 cond (Nat.beq (uF T t) 0) none (cond (cond (Nat.beq (eU O x) (uF T t)) (Nat.beq (ES y) (uF T t)) (cond (Nat.beq (ES x) (uF T t)) (Nat.beq (eU O y) (uF T t)) false)) (WE op) none)
def R9(T:Tb)(O:Sg)(op:BinOp)(t:X)(x y:U):V U:=match g2 (qK T op t) x y with
 |some r=>some r|none=>OG T O op t x y
def SP(T:Tb)(O:Sg)(st:X)(x:U)(f:Nat):V U :=
 match T.und st with
 |some (.struct fs)=>match nth fs.toList f with
  |some fd=>(match cO T fd.type with
   |some (_+1)=>match x with
    |.ptr k s off=>cond (bW O k s) (some (.ptr k s (off+fd.offset))) none|.iptr l=>some (.iptr (l.drop fd.offset))
    |_=>none
   |_=>none)
  |none=>none
 |_=>none
def ad(T:Tb)(st:X)(x:U)(f:Nat):V U :=
 match T.und st with
 |some (.struct fs)=>match nth fs.toList f with
  |some fd=>(match x with
   |.agg cs=>zt T fd.type cs fd.offset|_=>none)
  |none=>none
 |_=>none
def BQ(T:Tb)(O:Sg)(t:X)(x ix:U):V U :=
 match ix with
 |.int _ i=>match T.und t with
  |some (.slice e)=>(match cO T e with
   |some sz=>match x with
    |.sl k off n _=>cond (bW O k 0) (if 0<=i/\i<n then some (.ptr k 0 (off+i.toNat*sz))else none) none|.vl k st off n=>(match wG O k st with
     |some (l,_,j7)=>cond (Nat.beq j7 sz) (if 0<=i/\i<n/\l≠[]then some (.ptr k st (off*sz+i.toNat*sz))else none) none|none=>none)
    |.isl _ l=>if 0<=i/\i<l.length then(match l[i.toNat]? with
     |some c=>cond (Nat.beq c.length sz) (some (.iptr c)) none|none=>none)else none
    |_=>none
   |none=>none)
  |some (.array n e)=>(match cO T e with
   |some sz=>match x with
    |.ptr k st off=>cond (bW O k st) (if 0<=i/\i<n then some (.ptr k st (off+i.toNat*sz))else none) none|.iptr l=>if 0<=i/\i<n then some (.iptr (l.drop (i.toNat*sz)))else none
    |_=>none
   |none=>none)
  |_=>none
 |_=>none
def xh(T:Tb)(t:X)(x ix:U):V U :=
 match x with
 |.agg cs=>(match ix with
  |.int _ i=>match T.und t with
   |some (.array n e)=>(if 0<=i/\i<n then(match cO T e with
    |some sz=>zt T e cs (i.toNat*sz)|none=>none)else none)
   |_=>none
  |_=>none)
 |_=>g2 (YB T t) x ix
def ju(x:U)(i:Nat):V U:=match x with
 |.tup vs=>nth vs i|_=>none
def lenU(T:Tb)(O:Sg)(t:X)(x:U):V U:=match T.und t with
 |some (.slice _)=>(match x with
  |.nils=>some (.int .i64 0)|.sl k _ n _=>cond (bW O k 0) (some (.int .i64 n)) none
  |.vl k st _ n=>cond (bW O k st) (some (.int .i64 n)) none|.isl _ l=>some (.int .i64 l.length)
  |_=>none)
 |some .string=>(match x with
  |.str s=>some (.int .i64 s.length)|_=>none)
 |some (.array n _)=>(match x with
  |.junk=>none|_=>some (.int .i64 n))
 |some (.map _ _)=>(match x with
  |.nilm=>some (.int .i64 0)|.map k=>(match gt O.h k with
   |some (.map es _)=>some (.int .i64 es.length)|_=>none)
  |_=>none)
 |_=>none
def G3(T:Tb)(O:Sg)(t:X)(x:U):V U:=match T.und t with
 |some (.slice _)=>(match x with
  |.nils=>some (.int .i64 0)|.sl k _ _ c=>cond (bW O k 0) (some (.int .i64 c)) none
  |_=>none)
 |_=>none
def qI{v11:Type}(l:I v11)(lo hi:Nat):I v11:=(l.take hi).drop lo
def IZ(T:Tb)(O:Sg)(t:X)(x:U)(lo hi mx:V M):V U :=
 match T.und t with
 |some .string=>(match x with
  |.str s=>(match mx with
   |some _=>none|none=>match i7 s.length s.length lo hi none with
    |some (l,h,_)=>some (.str (qI s l h))|none=>none)
  |_=>none)
 |some (.slice e)=>(match cO T e with
  |some sz=>match x with
   |.nils=>(match i7 0 0 lo hi mx with
    |some _=>some .nils|none=>none)
   |.sl k off n c=>cond (bW O k 0) (match i7 n c lo hi mx with
    |some (l,h,m)=>some (.sl k (cond (Nat.beq m l) off (off+l*sz)) (h-l) (m-l))|none=>none) none
   |.vl k st off n=>(match wG O k st with
    |some (r,_,j7)=>cond (Nat.beq j7 sz) (match mx with
     |some _=>none|none=>match i7 n n lo hi none with
      |some (l,h,_)=>if(off+n)*sz<=r.length then some (.vl k st (off+l) (h-l))else none|none=>none) none
    |none=>none)
   |.isl t l=>if(l.all fun c=>Nat.beq c.length sz)=true then(match i7 l.length l.length lo hi mx with
    |some (a,h,m)=>(match mx with
      |some _=>if m<bY then some (.isl (Nat.beq m h) (qI l a h))else none|none=>some (.isl (cond t (Nat.beq h l.length) false) (qI l a h)))
    |none=>none)else none
   |_=>none
  |none=>none)
 |_=>none
def gQ(T:Tb)(O:Sg)(tm:I U)(op:Op):V U :=
 match op with
 |.move x=>c9 tm x|.assign x=>c9 tm x
 |.pick c a b=>(match c9 tm c with
  |some (.bool true)=>c9 tm a|some (.bool false)=>c9 tm b
  |_=>none)
 |.build t ps=>(match AN tm ps.toList with
  |some qs=>Gl T t qs|none=>none)
 |.nilCheck x=>(match c9 tm x with
  |some (.ptr k st off)=>cond (bW O k st) (some (.ptr k st off)) none|some (.iptr l)=>some (.iptr l)
  |some (.fn (.func f) a b)=>some (.fn (.func f) a b)|_=>none)
 |.binOp op t x y _=>(match c9 tm x,c9 tm y with
  |some a,some b=>R9 T O op t a b|_,_=>none)
 |.unOp op _ x=>(match c9 tm x with
  |some a=>g1 (RP op) a|none=>none)
 |.convert s d x=>(match c9 tm x with
  |some a=>g1 (convX T s d) a|none=>none)
 |.makeFunc fn first cap=>(match mM tm first.toList,mM tm cap.toList with
  |some a,some b=>some (.fn fn a b)|_,_=>none)
 |.slice t x lo hi mx=>(match c9 tm x,xK tm lo,xK tm hi,xK tm mx with
  |some a,some l,some h,some m=>IZ T O t a l h m|_,_,_,_=>none)
 |.fieldAddr t x f=>(match c9 tm x with
  |some a=>SP T O t a f|none=>none)
 |.field t x f=>(match c9 tm x with
  |some a=>ad T t a f|none=>none)
 |.indexAddr t x i=>(match c9 tm x,c9 tm i with
  |some a,some b=>BQ T O t a b|_,_=>none)
 |.index t x i=>(match c9 tm x,c9 tm i with
  |some a,some b=>xh T t a b|_,_=>none)
 |.extract x i=>(match c9 tm x with
  |some a=>ju a i|none=>none)
 |.call c=>(match c.callee with
  |.builtin .len=>(match mM tm c.args.toList,c.argTypes.toList with
   |some [x],t::_=>lenU T O t x|_,_=>none)
  |.builtin .cap=>(match mM tm c.args.toList,c.argTypes.toList with
   |some [x],t::_=>G3 T O t x|_,_=>none)
  |.builtin .max=>(match mM tm c.args.toList with
   |some (x::l)=>(match toV x,eY l with
    |some a,some b=>(match yE SG a b with
     |some r=>iN r|none=>none)
    |_,_=>none)
   |_=>none)
  |.builtin .min=>(match mM tm c.args.toList with
   |some (x::l)=>(match toV x,eY l with
    |some a,some b=>(match yE SF a b with
     |some r=>iN r|none=>none)
    |_,_=>none)
   |_=>none)
  |_=>none)
 |_=>none
def BO(T:Tb)(kt:X)(k:M):I ME->Nat->V (V (Nat×U))
 |[],_=>some none|e::es,i=>match toV e.key with
  |none=>none|some k'=>match eqv T 50 kt k k' with
   |some true=>some (some (i,e.val))|some false=>BO T kt k es (i+1)
   |none=>none
def GQ(T:Tb)(t:X)(l:I U)(off:Nat):V U:=match T.und t with
 |none=>none|some d=>cond (sE d) (match cO T t with
   |some n=>(match lB l off n with
    |some cs=>some (.agg cs)|none=>none)
   |none=>none) (nth l off)
def nI(T:Tb)(O:Sg)(tm:I U)(op:Op):V U :=
 match op with
 |.load t x=>(match c9 tm x with
  |some (.ptr k st off)=>(match cellsOf O k st with
   |some l=>GQ T t l off|none=>none)
  |some (.iptr l)=>GQ T t l 0|_=>none)
 |.lookup t x k ok=>(match T.und t,c9 tm x,c9 tm k with
  |some (.map kt et),some m,some ku=>(match toV ku with
   |none=>none|some kv=>cond (pA T 50 kt kv)
    (match (match m with
      |.nilm=>some []|.map r=>(match gt O.h r with
       |some (.map es _)=>some es|_=>none)
      |_=>none)with
     |none=>none|some es=>match BO T kt kv es 0 with
      |none=>none|some (some (_,v))=>some (cond ok (.tup [v,.bool true]) v)
      |some none=>match T.inf et with
       |some (_,_,z)=>(match iN z with
        |some zu=>some (cond ok (.tup [zu,.bool false]) zu)|none=>none)
       |none=>none) none)
  |_,_,_=>none)
 |_=>none
def Mc:U->U
 |.nils=>.isl false []|.isl _ l=>.isl false l
 |u=>u
def rZ:I U->I U
 |[]=>[]|u::l=>Mc u::rZ l
def newU(O:Sg)(b:B):Sg:=⟨(O.nx,b)::O.h,O.nx+1⟩
def wE(O:Sg)(sz:Nat)(x:U):V (Nat×I U):=match x with
 |.nils=>some (0,[])|.isl _ l=>if(l.all fun c=>Nat.beq c.length sz)=true then some (l.length,l.flatten)else none
 |.sl k off n _=>(match rowOf O k with
  |some l=>(match lB l off (n*sz)with
   |some cs=>some (n,rZ cs)|none=>none)
  |none=>none)
 |.vl k st off n=>(match wG O k st with
  |some (l,_,j7)=>cond (Nat.beq j7 sz) (match lB l (off*sz) (n*sz)with
   |some cs=>some (n,cs)|none=>none) none
  |none=>none)
 |_=>none
def MF(T:Tb)(O:Sg)(t xt:X)(s x:U):V (U×Sg):=
 match T.und t,T.und xt with
 |some (.slice e),some (.slice _)=>(match T.inf e with
  |some (sz+1,by_,z)=>cond (Nat.beq z.cells.toList.length (sz+1)) (match wE O (sz+1) x with
   |none=>none|some (k,new)=>match s with
    |.nils=>if k*by_<=140737488355328/\k<=140737488355328 then some (.vl O.nx 0 0 k,newU O (.vec new e (sz+1) 0))else none|.isl true l=>if(l.length+k)*by_<=140737488355328/\l.length+k<=140737488355328/\0<k/\(l.all fun c=>Nat.beq c.length (sz+1))=true then some (.vl O.nx 0 0 (l.length+k),newU O (.vec (l.flatten++new) e (sz+1) 0))else none
    |.sl a off n c=>(match rowOf O a with
     |none=>none|some l=>match lB l off (n*(sz+1))with
      |none=>none|some old=>if n=0/\c=0 then(if k*by_<=140737488355328/\k<=140737488355328 then some (.vl O.nx 0 0 k,newU O (.vec new e (sz+1) 0))else none)
       else if c<n+k then(if(n+k)*by_<=140737488355328/\n+k<=140737488355328/\0<k then some (.vl O.nx 0 0 (n+k),newU O (.vec (rZ old++new) e (sz+1) 0))else none)else none)
    |.vl a st off n=>(match gt O.h a with
     |some (.vec l e' j7 cT)=>cond (Nat.beq cT st) (cond (Nat.beq e' e) (cond (Nat.beq j7 (sz+1)) (match lB l (off*(sz+1)) (n*(sz+1))with
      |none=>none|some p=>if(n+k)*by_<=140737488355328/\n+k<=140737488355328/\(0<k/\(off=0\/0<n)\/off=0/\n*(sz+1)=l.length)then some (.vl a (st+1) 0 (n+k),⟨ug O.h a (.vec (p++new) e (sz+1) (st+1)),O.nx⟩)else none) none) none) none
     |_=>none)
    |_=>none) none
  |_=>none)
 |_,_=>none
def ol(T:Tb)(O:Sg)(t xt:X)(s x:U):V (U×Sg):=
 match T.und t,T.und xt,s,x with
 |some (.slice e),some (.int _),.nils,.int _ i=>(match T.inf e with
  |some (sz+1,by_,z)=>(match qH z.cells.toList with
   |some zu=>if 0<i/\i.toNat*by_<=140737488355328/\i.toNat<=140737488355328/\z.cells.toList.length=sz+1/\okL zu=true then
     some (.vl O.nx 0 0 i.toNat,newU O (.vec (rZ (List.replicate i.toNat zu).flatten) e (sz+1) 0))else none
   |none=>none)
  |_=>none)
 |_,_,_,_=>none
def jx(T:Tb)(O:Sg)(t xt:X)(s x:U):V (U×Sg):=match MF T O t xt s x with
 |some r=>some r|none=>ol T O t xt s x
def F'(T:Tb)(O:Sg)(t:X)(d x:U):V (U×Sg):=
 match T.und t with
 |some (.slice e)=>(match cO T e with
  |none=>none|some sz=>match wE O sz x with
   |none=>none|some (k,cs)=>match d with
    |.sl a off n _=>(match rowOf O a with
     |some l=>if n=0\/k=0\/sz=0 then none else(match qG l off (cs.take (Nat.min k n*sz))with
      |some l'=>(match M8 O a l' with
       |some O'=>some (.int .i64 (Nat.min k n),O')|none=>none)
      |none=>none)
     |none=>none)
    |_=>none)
 |_=>none
def GL(O:Sg)(k:Nat)(cs:I U):I U:=match gt O.h k with
 |some (.vec _ _ _ _)=>rZ cs|_=>cs
def Y4(T:Tb)(O:Sg)(t:X)(p u:U):V (U×Sg):=
 match p with
 |.ptr k st off=>(match cO T t with
  |none=>none|some n=>match xL u with
   |none=>none|some cs=>cond (Nat.beq cs.length n) (cond (okL cs) (match cellsOf O k st with
    |some l=>(match qG l off (GL O k cs)with
     |some l'=>(match M8 O k l' with
      |some O'=>some (.junk,O')|none=>none)
     |none=>none)
    |none=>none) none) none)
 |_=>none
def vN(z:I U)(n:Nat):I U:=(List.replicate n z).flatten
def Lr(T:Tb)(O:Sg)(t:X)(l c:U):V (U×Sg):=
 match T.und t,l,c with
 |some (.slice e),.int _ a,.int _ b=>(match T.inf e with
  |some (sz,by_,z)=>(match qH z.cells.toList with
   |some zu=>cond (okL zu) (cond (Nat.beq z.cells.toList.length sz) (if 0<=a/\a<=b/\by_*b.toNat<=281474976710656/\b<=281474976710656 then
     some (.sl O.nx 0 a.toNat b.toNat,newU O (.row (vN (rZ zu) b.toNat) e))else none) none) none
   |none=>none)
  |none=>none)
 |_,_,_=>none
def ah(T:Tb)(O:Sg)(t:X)(x:U):V (U×Sg):=
 match T.und t with
 |some (.slice e)=>(match T.inf e with
  |some (sz,_,z)=>(match qH z.cells.toList with
   |some zu=>cond (okL zu) (cond (Nat.beq z.cells.toList.length sz) (match x with
    |.vl k st off n=>(match wG O k st with
     |some (l,e',j7)=>cond (Nat.beq j7 sz) (if n=0 then some (.junk,O)else(match qG l (off*sz) (vN (rZ zu) n)with
      |some l'=>some (.junk,⟨ug O.h k (.vec l' e' j7 st),O.nx⟩)|none=>none)) none
     |none=>none)
    |.nils=>some (.junk,O)|_=>none) none) none
   |none=>none)
  |none=>none)
 |_=>none
def Qe(T:Tb)(O:Sg)(t:X)(n:Nat)(ps:I (Nat×U)):V (U×Sg):=
 match T.und t with
 |some (.slice e)=>(match T.inf e with
  |some (sz,_,z)=>cond (Nat.ble (n*sz) 16777216) (cond (Nat.ble n 16777216) (cond (Nat.beq z.cells.toList.length sz) (match qH z.cells.toList with
   |none=>none|some zu=>match uY (fun i=>some (i*sz,sz)) (vN zu n) ps with
    |some cs=>cond (okL cs) (some (.sl O.nx 0 n n,newU O (.row cs e))) none|none=>none) none) none) none
  |none=>none)
 |_=>none
def HZ(es:I ME)(i:Nat)(f:ME->ME):I ME:=match es,i with
 |[],_=>[]|e::es,0=>f e::es
 |e::es,i+1=>e::HZ es i f
def Lw(b:Int):I ME->Nat->V Nat
 |[],_=>none|e::es,i=>cond (decide ((e.born:Int)=b)) (some i) (Lw b es (i+1))
def Gj(es:I ME)(i:Nat):I ME:=match es,i with
 |[],_=>[]|_::es,0=>es
 |e::es,i+1=>e::Gj es i
def OO(O:Sg)(r:Nat)(es:I ME)(cl:Nat):Sg:=⟨ug O.h r (.map es cl),O.nx⟩
def Oh(T:Tb)(O:Sg)(t:X)(m k v:U):V (U×Sg):=
 match T.und t,m with
 |some (.map kt _),.map r=>(match toV k with
  |none=>none|some kv=>cond (pA T 50 kt kv) (cond (plain kv) (match gt O.h r with
   |some (.map es cl)=>(match BO T kt kv es 0 with
    |none=>none|some none=>some (.junk,OO O r (es++[{ key:=k,val:=v,born:=cl }]) (cl+1))
    |some (some (i,_))=>match nth es i with
     |none=>none|some e=>match toV e.key with
      |none=>none|some kv'=>cond (AF 50 kv' kv) (some (.junk,OO O r (HZ es i fun e=>{ e with val:=v }) cl)) none)
   |_=>none) none) none)
 |_,_=>none
def ie(T:Tb)(O:Sg)(t:X)(m k:U):V (U×Sg):=
 match T.und t,m with
 |some (.map kt et),.map r=>(match toV k with
  |none=>none|some kv=>cond (pA T 50 kt kv) (cond (plain kv) (match gt O.h r with
   |some (.map es cl)=>(match BO T kt kv es 0 with
    |none=>none|some none=>(match T.inf et with
     |none=>none|some (_,_,z)=>match iN z with
      |none=>none|some zu=>some (.tup [zu,.int .i64 cl],OO O r (es++[{ key:=k,val:=zu,born:=cl }]) (cl+1)))
    |some (some (i,v))=>match nth es i with
     |none=>none|some e=>match toV e.key with
      |none=>none|some kv'=>cond (AF 50 kv' kv) (some (.tup [v,.int .i64 e.born],OO O r es cl)) none)
   |_=>none) none) none)
 |_,_=>none
def af(O:Sg)(m st v:U):V (U×Sg):=
 match m,st with
 |.map r,.int _ b=>(match gt O.h r with
  |some (.map es cl)=>(match Lw b es 0 with
   |none=>none|some i=>some (.junk,OO O r (HZ es i fun e=>{ e with val:=v }) cl))
  |_=>none)
 |_,_=>none
def Ed(T:Tb)(O:Sg)(t:X)(m k:U):V (U×Sg):=
 match T.und t,m with
 |some (.map kt _),.map r=>(match toV k with
  |none=>none|some kv=>cond (pA T 50 kt kv) (match gt O.h r with
   |some (.map es cl)=>(match BO T kt kv es 0 with
    |none=>none|some none=>some (.junk,OO O r es cl)
    |some (some (i,_))=>some (.junk,OO O r (Gj es i) cl))
   |_=>none) none)
 |_,_=>none
def nX(T:Tb)(O:Sg)(tm:I U)(op:Op):V (U×Sg):=
 match op with
 |.alloc e=>(match T.inf e with
  |some (_,_,z)=>(match qH z.cells.toList with
   |some zu=>cond (okL zu) (some (.ptr O.nx 0 0,newU O (.row zu e))) none|none=>none)
  |none=>none)
 |.box e x=>(match c9 tm x with
  |some u=>(match xL u with
   |some cs=>cond (okL cs) (some (.ptr O.nx 0 0,newU O (.row cs e))) none|none=>none)
  |none=>none)
 |.store t a x=>(match c9 tm a,c9 tm x with
  |some p,some v=>Y4 T O t p v|_,_=>none)
 |.buildSlice t n ps=>(match AN tm ps.toList with
  |some qs=>Qe T O t n qs|none=>none)
 |.makeSlice t l c=>(match c9 tm l,c9 tm c with
  |some a,some b=>Lr T O t a b|_,_=>none)
 |.makeMap _ none=>some (.map O.nx,newU O (.map [] 0))|.mapUpdate t m k x=>(match c9 tm m,c9 tm k,c9 tm x with
  |some a,some b,some v=>Oh T O t a b v|_,_,_=>none)
 |.insert t m k x=>(match c9 tm m,c9 tm k,c9 tm x with
  |some a,some b,some v=>Oh T O t a b v|_,_,_=>none)
 |.mapEntry t m k=>(match c9 tm m,c9 tm k with
  |some a,some b=>ie T O t a b|_,_=>none)
 |.entryStore _ m st x=>(match c9 tm m,c9 tm st,c9 tm x with
  |some a,some b,some v=>af O a b v|_,_,_=>none)
 |.call c=>(match c.callee with
  |.builtin .append=>(match mM tm c.args.toList,c.argTypes.toList with
   |some [a,b],[t,xt]=>jx T O t xt a b|_,_=>none)
  |.builtin .copy=>(match mM tm c.args.toList,c.argTypes.toList with
   |some [a,b],t::_=>F' T O t a b|_,_=>none)
  |.builtin .delete=>(match mM tm c.args.toList,c.argTypes.toList with
   |some [a,b],t::_=>Ed T O t a b|_,_=>none)
  |.builtin .clear=>(match mM tm c.args.toList,c.argTypes.toList with
   |some [a],t::_=>ah T O t a|_,_=>none)
  |_=>none)
 |_=>none
def bM(T:Tb)(O:Sg)(tm:I U)(op:Op):V (U×Sg):=
 match gQ T O tm op with
 |some v=>some (v,O)|none=>match nI T O tm op with
  |some v=>some (v,O)|none=>nX T O tm op
def kH(T:Tb)(tm:I U)(op:Op):V (FuncId×I U):=
 match op with
 |.call c=>(match c.callee with
  |.value f=>(match c9 tm f with
   |some (.fn (.func g) first cap)=>(match T.fn g with
    |some fn=>cond fn.body.isSome (match mM tm c.args.toList with
     |some args=>some (g,first++args++cap)|none=>none) none
    |none=>none)
   |_=>none)
  |_=>none)
 |_=>none
end Go.Vx
namespace Go.Vx
open Go Go.Rx
mutual
def AP:(u:U)->(v:M)->toV u=some v->∀(x:Cx)(v':M),aD x u v'↔v'=v
 |.bool b,v,h,x,v'=>by simp[toV,zA]at h;subst h;simp[aD]
 |.int k n,v,h,x,v'=>by simp[toV,zA]at h;subst h;simp[aD]
 |.str l,v,h,x,v'=>by simp[toV,zA]at h;subst h;simp[aD]
 |.nilp,v,h,x,v'=>by simp[toV,zA]at h;subst h;simp[aD]
 |.nils,v,h,x,v'=>by simp[toV,zA]at h;subst h;simp[aD]
 |.nilm,v,h,x,v'=>by simp[toV,zA]at h;subst h;simp[aD]
 |.nilf,v,h,x,v'=>by simp[toV,zA]at h;subst h;simp[aD]
 |.nili,v,h,x,v'=>by simp[toV,zA]at h;subst h;simp[aD]
 |.agg l,v,h,x,v'=>by simp[toV]at h;rcases hk:okL l with _|_;simp[hk]at h;simp[hk,zC]at h;rcases hl:eY l with _|vs;simp[hl]at h;simp[hl,zA]at h;subst h;have:=H7 l vs hl x;simp[aD,hk,and_true];constructor;rintro⟨ws,rfl,h1,h2⟩;rw[(this ws).1 ⟨h1,h2⟩];rintro rfl;exact⟨vs,rfl,((this vs).2 rfl).1,((this vs).2 rfl).2⟩
 |.junk,v,h,x,v'=>by simp[toV]at h
 |.ptr _ _ _,v,h,x,v'=>by simp[toV]at h
 |.iptr _,v,h,x,v'=>by simp[toV]at h
 |.sl _ _ _ _,v,h,x,v'=>by simp[toV]at h
 |.vl _ _ _ _,v,h,x,v'=>by simp[toV]at h
 |.isl _ _,v,h,x,v'=>by simp[toV]at h
 |.map _,v,h,x,v'=>by simp[toV]at h
 |.fn _ _ _,v,h,x,v'=>by simp[toV]at h
 |.tup _,v,h,x,v'=>by simp[toV]at h
def H7:(l:I U)->(vs:I M)->eY l=some vs->∀(x:Cx)(ws:I M),bF x l ws↔ws=vs
 |[],vs,h,x,ws=>by simp only[eY,zA]at h;subst h;exact⟨fun h=>h.nil_inv,fun h=>h ▸ bF.nil x⟩
 |u::l,vs,h,x,ws=>by simp[eY]at h;rcases hu:toV u with _|v;simp[hu]at h;rcases hl:eY l with _|vH;simp[hu,hl]at h;simp[hu,hl,zA]at h;subst h;constructor;intro hr;obtain⟨w,ws',rfl,h1,h2⟩:=hr.inv;rw[(AP u v hu x w).1 h1,(H7 l vH hl x ws').1 h2];rintro rfl;exact bF.cons ((AP u v hu x v).2 rfl) ((H7 l vH hl x vH).2 rfl)
end
mutual
def OF:(v:M)->(u:U)->iN v=some u->plain v=true/\∀x:Cx,aD x u v
 |.bool b,u,h=>by simp[iN,zA]at h;subst h;simp[aD,plain]
 |.int k n,u,h=>by simp[iN,zA]at h;subst h;simp[aD,plain]
 |.string s,u,h=>by simp[iN,zA]at h;subst h;simp[aD,plain]
 |.pointer none,u,h=>by simp[iN,zA]at h;subst h;simp[aD,plain]
 |.slice none n c,u,h=>by simp[iN]at h;split at h;simp[zA]at h;subst h;simp[aD,plain];cases h
 |.map none,u,h=>by simp[iN,zA]at h;subst h;simp[aD,plain]
 |.nilFunc,u,h=>by simp[iN,zA]at h;subst h;simp[aD,plain]
 |.nilIface,u,h=>by simp[iN,zA]at h;subst h;simp[aD,plain]
 |.agg ⟨l⟩,u,h=>by simp[iN]at h;rcases hl:qH l with _|us;simp[hl]at h;simp[hl]at h;rcases hk:okL us with _|_;simp[hk]at h;simp[hk,zC,zA]at h;subst h;have⟨h1,h2⟩:=ON l us hl;exact⟨by simp[plain,h1],fun x=>by simp only[aD];exact⟨l,rfl,(h2 x).1,(h2 x).2,hk⟩⟩
 |.float _ _,u,h=>by simp[iN]at h
 |.complex _ _ _,u,h=>by simp[iN]at h
 |.pointer (some _),u,h=>by simp[iN]at h
 |.slice (some _) _ _,u,h=>by simp[iN]at h
 |.map (some _),u,h=>by simp[iN]at h
 |.chan _,u,h=>by simp[iN]at h
 |.func _ _ _,u,h=>by simp[iN]at h
 |.iface _ _,u,h=>by simp[iN]at h
 |.tuple _,u,h=>by simp[iN]at h
def ON:(l:I M)->(us:I U)->qH l=some us->SJ l=true/\∀x:Cx,bF x us l
 |[],us,h=>by simp[qH,zA]at h;subst h;exact⟨by simp[SJ],fun x=>bF.nil x⟩
 |v::l,us,h=>by simp[qH]at h;rcases hv:iN v with _|u;simp[hv]at h;rcases hl:qH l with _|Fs;simp[hv,hl]at h;simp[hv,hl,zA]at h;subst h;have⟨h1,h2⟩:=OF v u hv;have⟨h3,h4⟩:=ON l Fs hl;exact⟨by simp[SJ,h1,h3],fun x=>bF.cons (h2 x) (h4 x)⟩
end
section
variable{x:Cx}{tm:I U}{tv:I M}(ht:bF x tm tv)
include ht
def jH{o:Operand}{u:U}(h:c9 tm o=some u):∃v,evalO tv o=some v/\aD x u v:=by
 cases o with
 |tmp t=>simp[c9,jA]at h;have⟨v,h1,h2⟩:=ht.get h;exact⟨v,by simp[evalO,jA,h1],h2⟩
 |const v=>have⟨h1,h2⟩:=OF v u h;exact⟨v,by simp[evalO,h1],h2 x⟩
 |func f=>simp[c9,zA]at h;subst h;exact⟨_,rfl,by simp only[aD];exact⟨[],[],rfl,by simp[cU],rfl,by simp[cU],rfl⟩⟩|global g=>simp[c9]at h
def OY{l:I Operand}{us:I U}(h:mM tm l=some us):∃vs,kS tv l=some vs/\bF x us vs:=by induction l generalizing us with|nil=>simp[mM,zA]at h;subst h;exact⟨[],rfl,bF.nil x⟩|cons o l ih=>simp[mM]at h;rcases h1:c9 tm o with _|u;simp[h1]at h;rcases h2:mM tm l with _|Fs;simp[h1,h2]at h;simp[h1,h2,zA]at h;subst h;have⟨v,e1,r1⟩:=jH ht h1;have⟨vs,e2,r2⟩:=ih h2;exact⟨v::vs,by simp[kS,e1,e2],bF.cons r1 r2⟩
inductive Y3(x:Cx):List (Nat×U)->List (Nat×Value)->Prop
 |nil:Y3 x [] []
 |cons {i:Nat} {u:U} {v:Value} {l:List (Nat×U)} {m:List (Nat×Value)}:aD x u v->Y3 x l m->Y3 x ((i,u)::l) ((i,v)::m)
def f_{l:I (Nat×Operand)}{us:I (Nat×U)}(h:AN tm l=some us):∃vs,IU tv l=some vs/\Y3 x us vs:=by induction l generalizing us with|nil=>simp[AN,zA]at h;subst h;exact⟨[],rfl,.nil⟩|cons o l ih=>have⟨i,o⟩:=o;simp[AN]at h;rcases h1:c9 tm o with _|u;simp[h1]at h;rcases h2:AN tm l with _|Fs;simp[h1,h2]at h;simp[h1,h2,zA]at h;subst h;have⟨v,e1,r1⟩:=jH ht h1;have⟨vs,e2,r2⟩:=ih h2;exact⟨(i,v)::vs,by simp[IU,e1,e2],.cons r1 r2⟩
def g_{o:V Operand}{r:V M}(h:xK tm o=some r):sD tv o=some r:=by rcases o with _|o;simpa[xK,sD]using h;simp[xK]at h;rcases h1:c9 tm o with _|u;simp[h1]at h;have⟨v,e1,r1⟩:=jH ht h1;cases u with|int k n=>simp[h1,zA]at h;simp[aD]at r1;subst r1;subst h;simp[sD,e1]|_=>simp[h1]at h
end
variable{x:Cx}
variable{u:U}
variable{v:M}
def V2{f:M->V M}{r:U}(h:g1 f u=some r)(hr:aD x u v):∃rv,f v=some rv/\aD x r rv:=by unfold g1 at h;rcases h1:toV u with _|v0;simp[h1]at h;simp[h1]at h;rcases h2:f v0 with _|rv;simp[h2]at h;simp[h2]at h;rw[(AP u v0 h1 x v).1 hr];exact⟨rv,h2,(OF rv r h).2 x⟩
def V1{f:M->M->V M}{a b r:U}{va vb:M}(h:g2 f a b=some r)(ha:aD x a va)(hb:aD x b vb):∃rv,f va vb=some rv/\aD x r rv:=by unfold g2 at h;rcases h1:toV a with _|v1;simp[h1]at h;rcases h2:toV b with _|v2;simp[h1,h2]at h;simp[h1,h2]at h;rcases h3:f v1 v2 with _|rv;simp[h3]at h;simp[h3]at h;rw[(AP a v1 h1 x va).1 ha,(AP b v2 h2 x vb).1 hb];exact⟨rv,h3,(OF rv r h).2 x⟩
def qvz(hr:aD x u v)(hn:okC u=true):v.oneCell'=true:=by
 cases u with
 |junk=>simp[okC]at hn|agg l=>simp[okC]at hn
 |tup l=>simp[okC]at hn|ptr k st off=>simp[aD]at hr;exact hr.1
 |sl k off n c=>simp[aD]at hr;exact hr.1|vl k st off n=>simp[aD]at hr;exact hr.1
 |map k=>simp only[aD]at hr;exact hr.1|iptr l=>simp only[aD]at hr;obtain⟨_,_,_,_,rfl,_⟩:=hr;rfl
 |isl t l=>simp[aD]at hr;rcases hr with⟨_,rfl |⟨_,rfl⟩⟩|⟨_,_,_,rfl,_⟩<;>rfl
 |fn f a b=>simp[aD]at hr;obtain⟨_,_,rfl,_⟩:=hr;rfl
 |_=>simp[aD]at hr;subst hr;rfl
variable{l:I U}
variable{vs:I M}
def SX(hr:bF x l vs)(hk:okL l=true):tD vs=true:=by induction l generalizing vs with|nil=>rw[hr.nil_inv];rfl|cons u l ih=>obtain⟨v,vH,rfl,h1,h2⟩:=hr.inv;simp only[okL]at hk;have⟨k1,k2⟩:=MN hk;simp[tD,qvz h1 k1,ih h2 k2]
def h_{cs:I U}(hr:aD x u v)(h:xL u=some cs):bF x cs v.cells.toList/\okL cs=true:=by
 have one:okC u=true->cs=[u]->bF x cs v.cells.toList/\okL cs=true:=fun h1 h2=>by
  subst h2;have:=qvz hr h1;have e:v.cells= #[v]:=by cases v<;>first |rfl |(simp[Value.oneCell']at this)
  rw[e];exact⟨bF.cons hr (bF.nil x),by simp[okL,h1]⟩
 cases u with
 |junk=>simp[xL]at h|tup l=>simp[xL]at h
 |agg l=>simp[xL,zA]at h;subst h;simp[aD]at hr;obtain⟨vs,rfl,h1,h2,h3⟩:=hr;exact⟨⟨h1,h2⟩,h3⟩
 |_=>simp[xL,zA]at h;exact one rfl h.symm
def zcw(h:aD x u v):aD x (Mc u) v:=by
 cases u with
 |nils=>simp only[Mc,aD]at*;exact .inl ⟨trivial,.inl h⟩|isl t l=>simp only[Mc,aD]at*;rcases h with h |⟨i,off,c,h1,h2,h3⟩;exact .inl h;exact .inr ⟨i,off,c,h1,(fun h=>by cases h),h3⟩
 |_=>exact h
def WO(u:U):okC (Mc u)=okC u:=by cases u<;>rfl
def xn:∀l:I U,(rZ l).length=l.length
 |[]=>rfl|u::l=>by simp[rZ,xn l]
def Fx:∀l:I U,okL (rZ l)=okL l
 |[]=>rfl|u::l=>by simp[rZ,okL,WO,Fx l]
def z0b{x:Cx}:∀{l:I U}{vs:I M},cU x l vs->cU x (rZ l) vs
 |[],vs,h=>by simp[rZ,cU]
 |u::l,[],h=>by simp[cU]at h
 |u::l,v::vs,h=>by simp[rZ,cU]at*;exact⟨zcw h.1,z0b h.2⟩
def Ox(h:bF x l vs):bF x (rZ l) vs:=⟨z0b h.1,by rw[xn];exact h.2⟩
def zcv{O:Sg}{k:Nat}(h:bF x l vs):bF x (GL O k l) vs:=by unfold GL;split;exact Ox h;exact h
def WQ(O:Sg)(k:Nat)(l:I U):okL (GL O k l)=okL l:=by unfold GL;split;exact Fx l;rfl
structure Out(x y:Cx):Prop where
 h:kM y
 mo:Mo x.O.nx x y
 fr:∀F,Fr F x->Fr F y
def nc:GS:=fun _ _ _=>none
def rR(T:Tb)(x:Cx)(tv:I M)(op:Op)(u:U)(O':Sg):Prop:=∃v y,AU T nc tv x.s op=some (v,y.s)/\y.O=O'/\aD y u v/\Out x y
def Mo.refl(n:Nat)(x:Cx):Mo n x x:=⟨fun k _ h2=>⟨h2,fun b hb=>⟨b,hb,zF _,fun _=>⟨rfl,fun l e sz st h=>⟨l,h⟩⟩⟩⟩,fun _ _ _ h=>h⟩
def Out.refl{x:Cx}(h:kM x):Out x x:=⟨h,Mo.refl _ _,fun _ h=>h⟩
variable{T:Tb}
variable{tv:I M}
variable{op:Op}
def rR.same(hx:kM x)(h:AU T nc tv x.s op=some (v,x.s))(hr:aD x u v):rR T x tv op u x.O:=⟨v,x,h,rfl,hr,Out.refl hx⟩
variable{call:GS}
variable{s:S}
def z8h(h:iZ T tv op=some v):AU T call tv s op=some (v,s):=by simp[AU,h]
def Pn(h0:iZ T tv op=none)(h:o3 T tv s op=some v):AU T call tv s op=some (v,s):=by simp[AU,h,h0]
def qzh{r:M×S}(h0:iZ T tv op=none)(h1:o3 T tv s op=none)(h:uD T tv s op=some r):AU T call tv s op=some r:=by simp[AU,h,h0,h1]
def bump(x:Cx):Cx:=⟨x.Y,x.O,⟨x.s.h,x.s.nx+1⟩⟩
def ik(n:Nat)(x:Cx):Mo n x (bump x):=⟨fun k _ h2=>⟨h2,fun b hb=>⟨b,hb,zF _,fun _=>⟨rfl,fun l e sz st h=>⟨l,h⟩⟩⟩⟩,fun _ _ _ h=>h⟩
def og(h:aD x u v):aD (bump x) u v:=(ik x.O.nx x).ke u v (aD.bel u v h) h
def W2(h:bF x l vs):bF (bump x) l vs:=(ik x.O.nx x).ke.E h.bel h
def z7c(h:kM x):Out x (bump x):=by
 refine⟨⟨fun k b hb=>?_,h.inj,fun i b hb=>Nat.lt_succ_of_lt (h.bd i b hb)⟩,ik _ _,fun F J=>J⟩;have⟨h1,h2⟩:=h.ok k b hb;refine⟨h1,?_⟩;cases b with
 |row l e=>have⟨k1,i,l',e1,e2,e3⟩:=h2;exact⟨k1,i,l',e1,e2,W2 e3⟩
 |vec l e sz st=>have⟨k1,k2,h3⟩:=h2;refine⟨k1,k2,?_⟩;rcases h3 with h3 |⟨i,l',e1,e2,e3⟩;exact .inl h3;exact .inr ⟨i,l',e1,e2,W2 e3⟩
 |map es cl=>have⟨i,es',e1,e2,e3⟩:=h2;refine⟨i,es',e1,e2,e3.1,fun j e he=>?_⟩;have⟨v,q1,q2,q3,q4⟩:=e3.2 j e he;exact⟨v,q1,og q2,og q3,q4⟩
end Go.Vx
namespace Go.Vx
open Go Go.Rx
variable{l:I M}
variable{n:Nat}
def z96(h:n<=l.length):IR l n=some (l.take n):=by
 induction l generalizing n with
 |nil=>simp at h;subst h;simp[IR]|cons a l ih=>cases n with
  |zero=>simp[IR]|succ n=>simp[IR,ih (by simpa using h)]
variable{off:Nat}
def v03(h:off+n<=l.length):xA l off n=some ((l.drop off).take n):=z96 (by simp;omega)
variable{vs:I M}
def zcb(h:vs.length<=l.length):GB l vs=some (vs++l.drop vs.length):=by
 induction vs generalizing l with
 |nil=>simp[GB]|cons v vs ih=>cases l with
  |nil=>simp at h|cons a l=>simp[GB,ih (by simpa using h)]
def zcc(h:off+vs.length<=l.length):uC l off vs=some (l.take off++(vs++l.drop (off+vs.length))):=by
 induction l generalizing off with
 |nil=>simp at h;obtain⟨rfl,rfl⟩:=h;simp[uC,GB]
 |cons a l ih=>cases off with
  |zero=>simp only[uC,Nat.zero_add]at*;rw[zcb h];simp|succ off=>simp[uC,ih (off:=off) (by simp at h;omega),Nat.succ_add]
variable{l:I U}
def OR(h:okL l=true)(n:Nat):okL (l.take n)=true:=(OM _).2 fun u hu=>(OM l).1 h u (List.mem_of_mem_take hu)
def H8(h:okL l=true)(n:Nat):okL (l.drop n)=true:=(OM _).2 fun u hu=>(OM l).1 h u (List.mem_of_mem_drop hu)
def JE{a b:I U}(h:okL a=true)(h':okL b=true):okL (a++b)=true:=(OM _).2 fun u hu=>(yD.1 hu).elim ((OM a).1 h u) ((OM b).1 h' u)
variable{r:I U}
def SS(h:lB l off n=some r):off+n<=l.length/\r=(l.drop off).take n:=by unfold lB at h;split at h;simp at h;exact⟨by assumption,h.symm⟩;cases h
def qw1{vs:I U}(h:qG l off vs=some r):off+vs.length<=l.length/\r=l.take off++(vs++l.drop (off+vs.length)):=by unfold qG at h;split at h;simp at h;exact⟨by assumption,h.symm⟩;cases h
variable{x:Cx}
def xw{vs:I U}{lv vv:I M}(h:qG l off vs=some r)(hl:bF x l lv)(hv:bF x vs vv):∃rv,uC lv off vv=some rv/\bF x r rv/\(okL l=true->okL vs=true->okL r=true):=by obtain⟨h1,rfl⟩:=qw1 h;refine⟨_,zcc (by rw[<-hl.2,<-hv.2];exact h1),?_,fun a b=>JE (OR a _) (JE b (H8 a _))⟩;rw[<-hv.2];exact(hl.take _).append (hv.append (hl.drop _))
def z5y{lv:I M}(h:lB l off n=some r)(hl:bF x l lv):xA lv off n=some ((lv.drop off).take n)/\bF x r ((lv.drop off).take n):=by obtain⟨h1,rfl⟩:=SS h;exact⟨v03 (by rw[<-hl.2];exact h1),(hl.drop _).take _⟩
def Pv{x:Cx}{place:Nat->V (Nat×Nat)}:∀{ps:I (Nat×U)}{pv:I (Nat×M)}{cells r:I U}{cv:I M},Y3 x ps pv->bF x cells cv->uY place cells ps=some r->∃rv,EO place cv pv=some rv/\bF x r rv
 |_,_,cells,r,cv,.nil,hc,h=>by simp[uY,zA]at h;subst h;exact⟨cv,rfl,hc⟩
 |_,_,cells,r,cv,.cons (i:=i) (u:=u) (v:=v) (l:=l) (m:=m) hu hp,hc,h=>by simp[uY]at h;rcases h1:place i with _|q;simp[h1]at h;have⟨off,size⟩:=q;simp[h1]at h;rcases h2:xL u with _|cs;simp[h2]at h;simp[h2]at h;have⟨c1,c2⟩:=h_ hu h2;rcases h3:Nat.beq cs.length size with _|_;simp[h3]at h;simp[h3,zC]at h;rcases h4:qG cells off cs with _|c;simp[h4]at h;simp[h4]at h;have⟨rv,q1,q2,_⟩:=xw h4 hc c1;have⟨rv',q3,q4⟩:=Pv hp q2 h;exact⟨rv',by simp only[EO,h1];rw[<-c1.2,h3];simp[zC,q1,q3],q4⟩
variable{T:Tb}
variable{t:X}
variable{u:U}
def qzn{cs:I U}(h:zt T t cs off=some u)(hc:bF x cs vs)(hk:okL cs=true):∃v,GP T t vs off=some v/\aD x u v:=by
 unfold zt at h;unfold GP;rcases hd:T.und t with _|d;simp[hd]at h;simp[hd]at h ⊢;cases ha:sE d with
 |true=>simp only[ha,zC]at h ⊢;rcases hs:cO T t with _|n;simp[hs]at h;simp only[hs,zA]at h ⊢;subst h;refine⟨_,rfl,?_⟩;simp only[aD];exact⟨_,rfl,((hc.drop off).take n).1,((hc.drop off).take n).2,OR (H8 hk _) _⟩
 |false=>simp[ha,zD,jA]at h ⊢;exact hc.get h
def z2q{ps:I (Nat×U)}{pv:I (Nat×M)}(h:Gl T t ps=some u)(hp:Y3 x ps pv):∃v,Ot T t pv=some v/\aD x u v:=by
 unfold Gl at h;unfold Ot;rcases hi:T.inf t with _|q;simp[hi]at h;have⟨a,b,z⟩:=q;simp[hi]at h ⊢;rcases hz:qH z.cells.toList with _|zu;simp[hz]at h;simp[hz]at h;have uN:=(ON _ _ hz).2 x;rcases hd:T.und t with _|d;simp[hd]at h;cases d with
 |struct fs=>simp[hd]at h ⊢;rcases hs:J0 T fs.toList with _|_;simp[hs]at h;simp[hs,zC]at h ⊢;rcases hf:uY (MD T fs.toList) zu ps with _|cs;simp[hf]at h;simp[hf]at h;rcases hk:okL cs with _|_;simp[hk]at h;simp[hk,zC,zA]at h;subst h;have⟨rv,q1,q2⟩:=Pv hp uN hf;exact⟨.agg rv.toArray,by simp[q1],by simp only[aD];exact⟨rv,rfl,q2.1,q2.2,hk⟩⟩
 |array n e=>simp[hd]at h ⊢;rcases hs:cO T e with _|sz;simp[hs]at h;simp[hs]at h ⊢;rcases hf:uY (fun i=>some (i*sz,sz)) zu ps with _|cs;simp[hf]at h;simp[hf]at h;rcases hk:okL cs with _|_;simp[hk]at h;simp[hk,zC,zA]at h;subst h;have⟨rv,q1,q2⟩:=Pv hp uN hf;exact⟨.agg rv.toArray,by simp[q1],by simp only[aD];exact⟨rv,rfl,q2.1,q2.2,hk⟩⟩
 |_=>simp[hd]at h
variable{O:Sg}
variable{k:Nat}
def Qf{st:Nat}(h:bW O k st=true):∃b,gt O.h k=some b/\b.st=st:=by unfold bW at h;rcases hb:gt O.h k with _|b;simp[hb]at h;simp[hb,beq_eq,decide_eq_true_eq]at h;exact⟨b,rfl,h⟩
variable{v:M}
def YR{st:Nat}(hl:bW x.O k st=true)(hr:aD x (.ptr k st off) v):∃i,x.Y k=some i/\v=.pointer (some ⟨i,off,none⟩):=by have⟨b,h1,h2⟩:=Qf hl;simp[aD]at hr;exact((hr.2.2 b h1).2 h2.symm)
def OP{c:Nat}(hl:bW x.O k 0=true)(hr:aD x (.sl k off n c) v):∃i,x.Y k=some i/\v=.slice (some ⟨i,off,none⟩) n c/\c<bY/\n<=c:=by have⟨b,h1,h2⟩:=Qf hl;simp[aD]at hr;exact((hr.2.2 b h1).2 h2.symm)
def jr(hl:bW x.O k 0=true)(hr:aD x (.map k) v):∃i,x.Y k=some i/\v=.map (some i):=by have⟨b,h1,h2⟩:=Qf hl;simp[aD]at hr;exact((hr.2.2 b h1).2 h2.symm)
def YL{st:Nat}(hl:bW x.O k st=true)(hr:aD x (.vl k st off n) v):∃l e sz,gt x.O.h k=some (.vec l e sz st)/\LW off n v sz (x.Y k):=by have⟨b,h1,h2⟩:=Qf hl;simp[aD]at hr;obtain⟨l,e,sz,rfl,h3⟩:=(hr.2.2 b h1).2 h2.symm;exact⟨l,e,sz,h1,h3⟩
def kq{st:Nat}{r:I U×X×Nat}(h:wG O k st=some r):gt O.h k=some (.vec r.1 r.2.1 r.2.2 st)/\bW O k st=true:=by
 unfold wG at h;rcases hb:gt O.h k with _|b;simp[hb]at h;cases b with
 |vec l e sz cT=>simp[hb,beq_eq]at h;by_cases bZ:cT=st;subst bZ;simp at h;subst h;exact⟨rfl,by simp[bW,hb,B.st]⟩;simp[bZ]at h|_=>simp[hb]at h
def m_(h:rowOf O k=some l):∃e,gt O.h k=some (.row l e)/\bW O k 0=true:=by
 unfold rowOf at h;rcases hb:gt O.h k with _|b;simp[hb]at h;cases b with
 |row l' e=>simp[hb]at h;subst h;exact⟨e,rfl,by simp[bW,hb,B.st]⟩|_=>simp[hb]at h
def H'{sz:Nat}{o:V Nat}(h:LW off n v sz o):∃a c,v=.slice a n c:=by
 cases o with
 |none=>obtain⟨_,rfl,o,rfl,_⟩:=h;exact⟨o,0,rfl⟩
 |some i=>rcases h with⟨_,rfl,a,c,rfl,_⟩|rfl<;>exact⟨_,_,rfl⟩
def it(hx:kM x){st:Nat}(hl:bW x.O k st=true)(hr:aD x (.vl k st off n) v)(hn:0<n):
  ∃i l e sz l',gt x.O.h k=some (.vec l e sz st)/\x.Y k=some i/\v=.slice (some ⟨i,off*sz,none⟩) n (bY+off)/\lk x.s.h i=some (.inl (l',e,sz+2))/\bF x l l'/\0<sz/\okL l=true:=by have⟨l,e,sz,h1,h2⟩:=YL hl hr;have⟨_,k1,k2,h3⟩:=hx.ok k _ h1;rcases h3 with⟨_,h3⟩|⟨i,l',e1,e2,e3⟩;rw[h3]at h2;obtain⟨_,rfl,_⟩:=h2;omega;rw[e1]at h2;rcases h2 with⟨_,rfl,_⟩|h2;omega;exact⟨i,l,e,sz,l',h1,e1,h2,e2,e3,k2,k1⟩
def z05(hx:kM x)(hr:aD x u v)(h:eU x.O u=k)(hk:k≠0):
  (k=1/\∃a,v=.pointer (some a))\/(k=2/\∃a n c,v=.slice (some a) n c)\/(k=3/\∃r,v=.map (some r)):=by
 cases u with
 |ptr k' st off=>simp[eU]at h;rcases hl:bW x.O k' st with _|_;simp[hl]at h;omega;simp[hl]at h;obtain⟨i,_,rfl⟩:=YR hl hr;exact .inl ⟨h.symm,_,rfl⟩
 |iptr l=>simp only[eU]at h;simp only[aD]at hr;obtain⟨i,off,_,_,rfl,_⟩:=hr;exact .inl ⟨h.symm,_,rfl⟩
 |sl k' off n c=>simp[eU]at h;rcases hl:bW x.O k' 0 with _|_;simp[hl]at h;omega;simp[hl]at h;obtain⟨i,_,rfl,_⟩:=OP hl hr;exact .inr (.inl ⟨h.symm,_,_,_,rfl⟩)
 |vl k' st off n=>cases n with|zero=>simp[eU]at h;omega|succ n=>simp[eU]at h;rcases hl:bW x.O k' st with _|_;simp[hl]at h;omega;simp[hl]at h;obtain⟨i,l,e,sz,l',_,_,rfl,_⟩:=it hx hl hr (Nat.succ_pos _);exact .inr (.inl ⟨h.symm,_,_,_,rfl⟩)
 |isl t l=>rcases l with _|⟨c,l⟩;simp[eU]at h;omega;simp[eU]at h;simp only[aD]at hr;rcases hr with⟨hr,_⟩|⟨i,off,c',rfl,_⟩;cases hr;exact .inr (.inl ⟨h.symm,_,_,_,rfl⟩)
 |map k'=>simp[eU]at h;rcases hl:bW x.O k' 0 with _|_;simp[hl]at h;omega;simp[hl]at h;obtain⟨i,_,rfl⟩:=jr hl hr;exact .inr (.inr ⟨h.symm,_,rfl⟩)
 |_=>simp[eU]at h;omega
def qru(hr:aD x u v)(h:ES u=k)(hk:k≠0):(k=1/\v=.pointer none)\/(k=2/\v=.slice none 0 0)\/(k=3/\v=.map none):=by
 cases u with
 |nilp=>simp[ES]at h;simp[aD]at hr;exact .inl ⟨h.symm,hr⟩|nils=>simp[ES]at h;simp[aD]at hr;exact .inr (.inl ⟨h.symm,hr⟩)
 |nilm=>simp[ES]at h;simp[aD]at hr;exact .inr (.inr ⟨h.symm,hr⟩)|_=>simp[ES]at h;omega
def z4v(hx:kM x){op:BinOp}{a b:U}{va vb:M}(h:OG T x.O op t a b=some u)(ha:aD x a va)(hb:aD x b vb):∃v,qK T op t va vb=some v/\aD x u v:=by
 unfold OG at h;simp[beq_eq]at h;by_cases h0:uF T t=0;simp[h0]at h;simp[h0,yB,zD]at h;have key:WE op=some u->
   (uF T t=1/\((∃p,va=.pointer (some p))/\vb=.pointer none\/va=.pointer none/\∃p,vb=.pointer (some p)))\/
   (uF T t=2/\((∃p n c,va=.slice (some p) n c)/\vb=.slice none 0 0\/va=.slice none 0 0/\∃p n c,vb=.slice (some p) n c))\/
   (uF T t=3/\((∃p,va=.map (some p))/\vb=.map none\/va=.map none/\∃p,vb=.map (some p)))->∃v,qK T op t va vb=some v/\aD x u v:=by
  intro pY hk;have yP:∀{k:Nat},uF T t=k->k≠0->(k=1->∃e,T.und t=some (.pointer e))/\(k=2->∃e,T.und t=some (.slice e))/\(k=3->∃e e',T.und t=some (.map e e')):=by intro k hk Q5;unfold uF at hk;rcases hd:T.und t with _|d;simp[hd]at hk;omega;cases d<;>simp[hd]at hk<;>subst hk<;>simp at Q5 ⊢
  rcases hk with⟨hk,hv⟩|⟨hk,hv⟩|⟨hk,hv⟩;have⟨e,he⟩:=(yP hk (by omega)).1 rfl;rcases hv with⟨⟨p,rfl⟩,rfl⟩|⟨rfl,p,rfl⟩<;>cases op<;>simp[WE]at pY<;>subst pY<;>simp[qK,wJ,eqv,he,aD];have⟨e,he⟩:=(yP hk (by omega)).2.1 rfl;rcases hv with⟨⟨p,n,c,rfl⟩,rfl⟩|⟨rfl,p,n,c,rfl⟩<;>cases op<;>simp[WE]at pY<;>subst pY<;>simp[qK,wJ,eqv,he,aD];have⟨e,e',he⟩:=(yP hk (by omega)).2.2 rfl;rcases hv with⟨⟨p,rfl⟩,rfl⟩|⟨rfl,p,rfl⟩<;>cases op<;>simp[WE]at pY<;>subst pY<;>simp[qK,wJ,eqv,he,aD]
 by_cases h1:eU x.O a=uF T t;by_cases h2:ES b=uF T t;simp[h1,h2,yC,zC]at h;apply key h;rcases z05 hx ha h1 h0 with⟨e1,q⟩|⟨e1,q⟩|⟨e1,q⟩<;>rcases qru hb h2 h0 with⟨e2,q'⟩|⟨e2,q'⟩|⟨e2,q'⟩<;>first |omega |skip
 exact .inl ⟨e1,.inl ⟨q,q'⟩⟩;exact .inr (.inl ⟨e1,.inl ⟨q,q'⟩⟩);exact .inr (.inr ⟨e1,.inl ⟨q,q'⟩⟩);simp[h1,h2]at h;simp[h1,yB,zD]at h;by_cases h2:ES a=uF T t;by_cases h3:eU x.O b=uF T t;simp[h2,h3,yC,zC]at h;apply key h;rcases z05 hx hb h3 h0 with⟨e1,q⟩|⟨e1,q⟩|⟨e1,q⟩<;>rcases qru ha h2 h0 with⟨e2,q'⟩|⟨e2,q'⟩|⟨e2,q'⟩<;>first |omega |skip
 exact .inl ⟨e1,.inr ⟨q',q⟩⟩;exact .inr (.inl ⟨e1,.inr ⟨q',q⟩⟩);exact .inr (.inr ⟨e1,.inr ⟨q',q⟩⟩);simp[h2,h3]at h;simp[h2]at h
def zb4(hx:kM x){op:BinOp}{a b:U}{va vb:M}(h:R9 T x.O op t a b=some u)(ha:aD x a va)(hb:aD x b vb):∃v,qK T op t va vb=some v/\aD x u v:=by unfold R9 at h;rcases h1:g2 (qK T op t) a b with _|r;simp[h1]at h;exact z4v hx h ha hb;simp[h1,zA]at h;subst h;exact V1 h1 ha hb
variable{v:M}
variable{n:Nat}
def EZ{y y':Nat}(h:jY v y=some n)(hy:y<=y'):jY v y'=some n/\n<=y:=by
 unfold jY at*;cases v with
 |int k i=>
  simp only at*;rcases h1:sH i (y+1)with _|_;simp[h1]at h;simp[h1,zC,zA]at h;have⟨a,b⟩:=YS h1;have:sH i (y'+1)=true:=by
   unfold sH;cases i with
   |ofNat k=>simp at b ⊢;omega|negSucc k=>omega
  exact⟨by simp[this,h],by omega⟩
 |_=>simp at h
variable{c:Nat}
variable{lo:V M}
variable{hi:V M}
variable{l:Nat}
variable{h:Nat}
variable{m:Nat}
def SQ(hb:i7 n n lo hi none=some (l,h,m))(hc:n<=c):i7 n c lo hi none=some (l,h,c)/\l<=h/\h<=n/\m=n:=by
 unfold i7 at*;simp only at*;cases hi with
 |none=>
  simp only at*;cases lo with
  |none=>simp[zA,zB]at hb ⊢;have⟨rfl,rfl,rfl⟩:=hb;simp
  |some v=>simp only at*;rcases h1:jY v n with _|k;simp[h1]at hb;simp[h1,zA,zB]at hb ⊢;have⟨rfl,rfl,rfl⟩:=hb;simp[(EZ h1 (zF _)).2]
 |some w=>
  simp only at*;rcases h2:jY w n with _|k2;simp[h2]at hb;have⟨e2,e3⟩:=EZ h2 hc;simp[h2,e2]at hb ⊢;cases lo with
  |none=>simp[zA,zB]at hb ⊢;have⟨rfl,rfl,rfl⟩:=hb;simp[e3]
  |some v=>simp only at*;rcases h1:jY v k2 with _|k;simp[h1]at hb;simp[h1,zA,zB]at hb ⊢;have⟨rfl,rfl,rfl⟩:=hb;simp[(EZ h1 (zF _)).2,e3]
def Py{vm:M}(hb:i7 n n lo hi (some vm)=some (l,h,m)):jY vm n=some m/\l<=h/\h<=m/\m<=n/\∀c,m<=c->i7 n c lo hi (some vm)=some (l,h,m):=by
 unfold i7 at*;simp only at*;rcases h0:jY vm n with _|k0;simp[h0]at hb;simp[h0]at hb;have e0:=(EZ h0 (zF _)).2;have grow:∀c,k0<=c->jY vm c=some k0:=fun c hc=>by
  unfold jY at*;cases vm with
  |int k i=>
   simp only at*;rcases h1:sH i (n+1)with _|_;simp[h1]at h0;simp[h1,zC,zA]at h0;have⟨a,b⟩:=YS h1;have:sH i (c+1)=true:=by
    unfold sH;cases i with
    |ofNat k=>simp at h0 ⊢;omega|negSucc k=>omega
   simp[this,h0]
  |_=>simp at h0
 rcases hi with _|w;simp at hb;simp only at*;rcases h2:jY w k0 with _|k2;simp[h2]at hb;have e3:=(EZ h2 (zF _)).2;simp[h2]at hb;cases lo with
 |none=>simp[zA,zB]at hb;have⟨rfl,rfl,rfl⟩:=hb;exact⟨rfl,by omega,e3,e0,fun c hc=>by simp[grow c hc,h2]⟩
 |some v=>simp only at*;rcases h1:jY v k2 with _|k;simp[h1]at hb;simp[h1,zA,zB]at hb;have⟨rfl,rfl,rfl⟩:=hb;exact⟨rfl,(EZ h1 (zF _)).2,e3,e0,fun c hc=>by simp[grow c hc,h2,h1]⟩
variable{mx:V M}
def z79(hb:i7 n c lo hi mx=some (l,h,m)):l<=h/\m<=c:=by
 unfold i7 at hb;cases mx with
 |none=>
  simp only at hb;cases hi with
  |none=>simp only at hb;rcases lo with _|v;simp[zA,zB]at hb;omega;simp only at hb;rcases h1:jY v n with _|k;simp[h1]at hb;simp[h1,zA,zB]at hb;have:=(EZ h1 (zF _)).2;omega
  |some w=>simp only at hb;rcases h2:jY w c with _|k2;simp[h2]at hb;simp[h2]at hb;rcases lo with _|v;simp[zA,zB]at hb;omega;simp only at hb;rcases h1:jY v k2 with _|k;simp[h1]at hb;simp[h1,zA,zB]at hb;have:=(EZ h1 (zF _)).2;omega
 |some vm=>simp only at hb;rcases h0:jY vm c with _|k0;simp[h0]at hb;have e0:=(EZ h0 (zF _)).2;simp[h0]at hb;rcases hi with _|w;simp at hb;simp only at hb;rcases h2:jY w k0 with _|k2;simp[h2]at hb;simp[h2]at hb;rcases lo with _|v;simp[zA,zB]at hb;omega;simp only at hb;rcases h1:jY v k2 with _|k;simp[h1]at hb;simp[h1,zA,zB]at hb;have:=(EZ h1 (zF _)).2;omega
def z7a(hb:i7 n c lo hi mx=some (l,h,m))(hn:n<=c):h<=m:=by
 unfold i7 at hb;cases mx with
 |none=>
  simp only at hb;cases hi with
  |none=>simp only at hb;rcases lo with _|v;simp[zA,zB]at hb;omega;simp only at hb;rcases h1:jY v n with _|k;simp[h1]at hb;simp[h1,zA,zB]at hb;omega
  |some w=>simp only at hb;rcases h2:jY w c with _|k2;simp[h2]at hb;have:=(EZ h2 (zF _)).2;simp[h2]at hb;rcases lo with _|v;simp[zA,zB]at hb;omega;simp only at hb;rcases h1:jY v k2 with _|k;simp[h1]at hb;simp[h1,zA,zB]at hb;omega
 |some vm=>simp only at hb;rcases h0:jY vm c with _|k0;simp[h0]at hb;simp[h0]at hb;rcases hi with _|w;simp at hb;simp only at hb;rcases h2:jY w k0 with _|k2;simp[h2]at hb;have:=(EZ h2 (zF _)).2;simp[h2]at hb;rcases lo with _|v;simp[zA,zB]at hb;omega;simp only at hb;rcases h1:jY v k2 with _|k;simp[h1]at hb;simp[h1,zA,zB]at hb;omega
def jn{x:Cx}{sz:Nat}:∀{l:I (I U)}{vs:I M},iV x sz l vs->∀(i:Nat)(c:I U),l[i]? = some c->c.length=sz/\okL c=true/\cU x c (vs.drop (i*sz))
 |[],vs,h,i,c,hc=>by simp at hc
 |d::l,vs,h,i,c,hc=>by
  simp[iV]at h;cases i with
  |zero=>simp at hc;subst hc;exact⟨h.1,h.2.1,by simpa using h.2.2.1⟩|succ i=>simp at hc;have:=jn h.2.2.2 i c hc;rw[List.drop_drop]at this;rw[Nat.succ_mul,Nat.add_comm];exact this
def z5n{x:Cx}{sz:Nat}:∀{l:I (I U)}{vs:I M},(∀(i:Nat)(c:I U),l[i]? = some c->c.length=sz/\okL c=true/\cU x c (vs.drop (i*sz)))->iV x sz l vs
 |[],vs,h=>by simp[iV]
 |d::l,vs,h=>by simp[iV];have h0:=h 0 d rfl;refine⟨h0.1,h0.2.1,by simpa using h0.2.2,z5n fun i c hc=>?_⟩;have:=h (i+1) c (by simpa using hc);rw[List.drop_drop];rw[Nat.succ_mul,Nat.add_comm]at this;exact this
def z7j{v11:Type}(l:I v11)(a h i:Nat):(qI l a h)[i]? = if a+i<h then l[a+i]? else none:=by unfold qI;rw[List.getElem?_drop,List.getElem?_take]
variable{a:Nat}
def qyn{v11:Type}{l:I v11}(hh:h<=l.length):(qI l a h).length=h-a:=by simp[qI];omega
variable{x:Cx}
variable{sz:Nat}
def z8t{l:I (I U)}{vs:I M}(hr:iV x sz l vs):iV x sz (qI l a h) (vs.drop (a*sz)):=by refine z5n fun i c hc=>?_;rw[z7j]at hc;split at hc;have:=jn hr _ _ hc;rw[List.drop_drop];rw[Nat.add_mul]at this;exact this;cases hc
def z9e{l:I (I U)}(h:(l.all fun c=>Nat.beq c.length sz)=true):∀c∈l,c.length=sz:=fun c hc=>by
 have:=List.all_eq_true.1 h c hc;simpa[beq_eq]using this
def z5o{j7:Nat}{l:I (I U)}{vs:I M}(hr:iV x sz l vs)(d5:l≠[])(h:(l.all fun c=>Nat.beq c.length j7)=true):sz=j7:=by rcases l with _|⟨c,l⟩;exact absurd rfl d5;rw[<-(jn hr 0 c rfl).1];exact z9e h c (by simp)
def jm{x:Cx}{sz:Nat}:∀{l:I (I U)}{vs:I M},iV x sz l vs->l.length*sz<=vs.length
 |[],vs,h=>by simp
 |d::l,vs,h=>by simp[iV]at h;have h1:=cU.len h.2.2.1;have h2:=jm h.2.2.2;rw[List.length_drop]at h2;rw[zO,Nat.succ_mul];omega
def qwl{x:Cx}{sz:Nat}:∀{l:I (I U)}{vs:I M},iV x sz l vs->bF x l.flatten (vs.take (l.length*sz))/\okL l.flatten=true
 |[],vs,h=>by simpa[okL]using bF.nil x
 |d::l,vs,h=>by
  have bA:=jm h;simp[iV]at h;have⟨h1,h2,h3,h4⟩:=h;have⟨g1,g2⟩:=qwl h4;refine⟨?_,by simpa using JE h2 g2⟩;have e:vs.take ((d::l).length*sz)=vs.take d.length++(vs.drop sz).take (l.length*sz):=by rw[zO,Nat.succ_mul,Nat.add_comm,List.take_add,h1]
  rw[e,List.flatten_cons];exact h3.takeE.append g1
def qy8(T:Tb)(x:Cx)(t:X)(u:U)(va:M)(lo hi mx:V M):Prop :=
 (∃v,o5 T t va lo hi mx=some v/\aD x u v)\/(o5 T t va lo hi mx=none/\∃v,GT T x.s t va lo hi mx=some v/\aD x u v)\/ (o5 T t va lo hi mx=none/\GT T x.s t va lo hi mx=none/\∃v,Fz T x.s t va lo hi mx=some (v,(bump x).s)/\aD (bump x) u v)
def pF{b:Nat}(h:a<b):Nat.blt a b=true:=Nat.ble_eq_true_of_le h
def H6{b:Nat}(h:¬ a<b):Nat.blt a b=false:=by rcases hb:Nat.blt a b with _|_;rfl;exact absurd (JA hb) h
variable{T:Tb}
variable{t:X}
variable{e:X}
variable{i:Nat}
variable{off:Nat}
variable{row:I M}
def qqj(hd:T.und t=some (.slice e))(hs:cO T e=some sz)(dS:0<sz){d:Nat}(hn:0<n)(eQ:off=d*sz)(hX:EQ x.s i sz=some row)
  (bA:off+n*sz<=row.length) (hb:i7 n n lo hi none=some (l,h,m)):
  let va:=Value.slice (some ⟨i,off,none⟩) n (bY+d)
  o5 T t va lo hi none=none/\(if l<h\/l=0 then GT T x.s t va lo hi none=some (.slice (some ⟨i,(d+l)*sz,none⟩) (h-l) (bY+(d+l)))
   else GT T x.s t va lo hi none=none/\Fz T x.s t va lo hi none=some (.slice (some ⟨x.s.nx,0,none⟩) 0 bY,(bump x).s)):=by
 have hc:Nat.blt (bY+d) bY=false:=H6 (by omega);obtain⟨n',rfl⟩:∃q,n=q+1:=⟨n-1,by omega⟩;have B6:bR (bY+d)=d:=by simp[bR]
 have wY:n'+1<=(row.length-off)/sz:=by rw[Nat.le_div_iff_mul_le dS];omega
 obtain⟨b1,b2,b3,_⟩:=SQ hb wY;have KO:Nat.ble (off+h*sz) row.length=true:=Nat.ble_eq_true_of_le (by have:h*sz<=(n'+1)*sz:=Nat.mul_le_mul_right _ b3;omega);refine⟨by simp[o5,hd,hc,emptyS],?_⟩;have KP:Nat.beq off (d*sz)=true:=by simp[eQ]
 have f0:Nat.blt 0 sz=true:=pF dS;cases l with
 |zero=>simp only[or_true,if_true];simp only[GT,hd,hc,zD,hs,hX,B6,KP,zC,f0,b1,KO];simp[eQ]|succ l=>
  by_cases aE:l+1<h;simp only[aE,true_or,if_true];simp only[GT,hd,hc,zD,hs,hX,B6,KP,zC,f0,b1,KO,pF aE];simp[eQ,Nat.add_mul,Nat.add_assoc];have:¬ (l+1<h\/l+1=0):=by omega
  simp only[this,if_false];simp only[GT,Fz,hd,hc,zD,hs,hX,B6,KP,zC,f0,b1,KO,H6 aE];simp[bump]
def qty(hd:T.und t=some (.slice e))(hs:cO T e=some sz)(dS:0<sz){d:Nat}(hn:0<n)(eQ:off=d*sz)(hX:EQ x.s i sz=some row)
  (bA:off+n*sz<=row.length) {vm:M} (hb:i7 n n lo hi (some vm)=some (l,h,m)) (hm:m<bY):
  let va:=Value.slice (some ⟨i,off,none⟩) n (bY+d)
  o5 T t va lo hi (some vm)=none/\GT T x.s t va lo hi (some vm)=some (.slice (some (cond (Nat.beq m l) ⟨i,off,none⟩ ⟨i,off+l*sz,none⟩)) (h-l) (m-l)):=by
 have hc:Nat.blt (bY+d) bY=false:=H6 (by omega);obtain⟨n',rfl⟩:∃q,n=q+1:=⟨n-1,by omega⟩;have B6:bR (bY+d)=d:=by simp[bR]
 have wY:n'+1<=(row.length-off)/sz:=by rw[Nat.le_div_iff_mul_le dS];omega
 have⟨b0,b1,b2,b3,b4⟩:=Py hb;have Cs:=(EZ b0 wY).1;have KO:Nat.ble (off+m*sz) row.length=true:=Nat.ble_eq_true_of_le (by have:m*sz<=(n'+1)*sz:=Nat.mul_le_mul_right _ b3;omega);refine⟨by simp[o5,hd,hc,emptyS],?_⟩;have KP:Nat.beq off (d*sz)=true:=by simp[eQ]
 have f0:Nat.blt 0 sz=true:=pF dS;simp[GT,hd,hc,zD,hs,hX,B6,KP,zC,f0,Cs,KO,b4 m (zF _),pF hm]
def z0p{s:S}{l:I M}(h:lk s.h i=some (.inl (l,e,sz+2))):EQ s i sz=some l:=by simp[EQ,h]
def qrf{s:S}{l:I M}(h:lk s.h i=some (.inl (l,sz+1,1))):EQ s i sz=some l:=by simp[EQ,h]
variable{k:Nat}
variable{iL:Nat}
def zao{n' c':Nat}(hr:aD x (.sl k off n c) v)(hi:x.Y k=some i)(hc:c'<bY)(hn:n'<=c'):aD x (.sl k iL n' c') (.slice (some ⟨i,iL,none⟩) n' c'):=by simp[aD]at*;exact⟨rfl,hr.2.1,fun b hb=>⟨(hr.2.2 b hb).1,fun _=>⟨i,hi,rfl,hc,hn⟩⟩⟩
def z5p{st:Nat}(hr:aD x (.ptr k st off) v)(hi:x.Y k=some i):aD x (.ptr k st iL) (.pointer (some ⟨i,iL,none⟩)):=by simp only[aD]at*;exact⟨rfl,hr.2.1,fun b hb=>⟨(hr.2.2 b hb).1,fun _=>⟨i,hi,rfl⟩⟩⟩
def Of{st n':Nat}{l:I U}{v':M}(hr:aD x (.vl k st off n) v)(hb:gt x.O.h k=some (.vec l e sz st))(h1:v'.oneCell'=true)(h:LW iL n' v' sz (x.Y k)):aD x (.vl k st iL n') v':=by simp[aD]at*;refine⟨h1,hr.2.1,fun b cV=>⟨(hr.2.2 b cV).1,fun _=>?_⟩⟩;rw[hb]at cV;cases cV;exact⟨l,e,sz,rfl,h⟩
def G4:Nat.blt 0 bY=true:=pF (by simp[bY])
def yj(hb:i7 0 0 lo hi mx=some (l,h,m)):l=0/\h=0/\m=0:=by
 cases mx with
 |none=>have⟨_,b2,b3,b4⟩:=SQ hb (zF _);omega
 |some vm=>have⟨_,b2,b3,b4,_⟩:=Py hb;omega
def YI{t:Bool}{l:I (I U)}(hg:lk x.s.h i=some (.inl (row,e,1)))(hr:iV x sz l (row.drop off))(hh:h<=l.length)(eQ:a<h->iL=off+a*sz)
  (ht:t=true->c=h-a/\c<bY) (hc:a<h->(c<bY/\h-a<=c)\/(bY<=c/\e=sz+1/\0<sz/\iL=bR c*sz)):aD x (.isl t (qI l a h)) (.slice (some ⟨i,iL,none⟩) (h-a) c):=by
 have bA:=qyn (a:=a) hh;simp only[aD];refine .inr ⟨i,iL,c,by rw[bA],by rw[bA];exact ht,?_⟩;by_cases aE:a<h;have e1:row.drop iL=(row.drop off).drop (a*sz):=by rw[List.drop_drop,eQ aE]
 have Cp:=z8t (a:=a) (h:=h) hr;rw[<-e1]at Cp;refine .inr ⟨row,e,sz,hg,Cp,?_⟩;rw[bA];rcases hc aE with hc |⟨c1,c2,c3,c4⟩;exact .inl hc;refine .inr ⟨c1,c2,c3,c4,?_⟩;have:=jm Cp;rw[bA,List.length_drop]at this;have f0:0<(h-a)*sz:=Nat.mul_pos (by omega) c3;omega;exact .inl (List.eq_nil_of_length_eq_zero (by rw[bA];omega))
def z65(hd:T.und t=some (.slice e))(hs:cO T e=some sz){tt:Bool}{l:I (I U)}{u:U}{va:M}(cR:(l.all fun c=>Nat.beq c.length sz)=true)
  (hb:i7 l.length l.length lo hi mx=some (a,h,m)) (hu:match mx with
   |some _=>m<bY/\u=.isl (Nat.beq m h) (qI l a h)|none=>u=.isl (cond tt (Nat.beq h l.length) false) (qI l a h)) (ha:aD x (.isl tt l) va):qy8 T x t u va lo hi mx:=by
 simp only[aD]at ha;rcases ha with⟨rfl,rfl |⟨r,rfl⟩⟩|⟨i,off,c,rfl,ht,dA⟩;obtain⟨rfl,rfl,rfl⟩:=yj hb;refine .inl ⟨.slice none 0 0,by simp only[zS]at hb;simp[o5,hd,hb,hs,G4],?_⟩;rcases mx with _|vm;simp only at hu;subst hu;simp[aD,qI];simp only at hu;rw[hu.2];simp[aD,qI];obtain⟨rfl,rfl,rfl⟩:=yj hb;refine .inl ⟨.chan (some r),by simp only[zS]at hb;simp[o5,hd,hb,hs],?_⟩;rcases mx with _|vm;simp only at hu;subst hu;simp[aD,qI];simp only at hu;rw[hu.2];simp[aD,qI];by_cases d5:l=[];subst d5;obtain⟨rfl,rfl,rfl⟩:=yj hb;simp only[zS]at hb ht;have fin:∀(t':Bool)(iL c':Nat),(t'=true->c'=0)->aD x (.isl t' (qI [] 0 0)) (.slice (some ⟨i,iL,none⟩) 0 c'):=fun t' iL c' h1=>by simp only[aD];exact .inr ⟨i,iL,c',by simp[qI],fun h=>by rw[h1 h];simp[qI,bY],.inl (by simp[qI])⟩
 by_cases hc:c<bY;cases mx with
 |none=>
  simp only[zS]at hu;subst hu;obtain⟨b1,_⟩:=SQ hb (Nat.zero_le c);have tH:(cond tt (Nat.beq 0 0) false=true)->c=0:=fun h=>(ht (by cases tt<;>simp_all)).1;cases vX:Nat.beq c 0 with
  |true=>exact .inl ⟨_,by simp only[zS,o5,hd,pF hc,zC,b1,hs,vX]<;>rfl,fin _ off c tH⟩|false=>exact .inl ⟨_,by simp only[zS,o5,hd,pF hc,zC,zD,b1,hs,vX]<;>rfl,fin _ _ c tH⟩
 |some vm=>simp only at hu;obtain⟨_,_,_,_,b4⟩:=Py hb;rw[hu.2];exact .inl ⟨_,by simp only[zS,o5,hd,pF hc,zC,b4 c (Nat.zero_le _),hs]<;>rfl,fin _ off 0 (fun _=>rfl)⟩
 cases mx with|none=>simp only[zS]at hu;subst hu;exact .inl ⟨_,by simp only[zS,o5,hd,H6 hc,zD,emptyS,hb,hs]<;>rfl,fin _ off c (fun h=>absurd (ht (by cases tt<;>simp_all)).2 hc)⟩|some vm=>simp only at hu;rw[hu.2];exact .inl ⟨_,by simp only[zS,o5,hd,H6 hc,zD,emptyS,hb,hs]<;>rfl,fin _ off 0 (fun _=>rfl)⟩
 rcases dA with dA |⟨row,e',j7,g1,g2,g3⟩;exact absurd dA d5;have dS:=z5o g2 d5 cR;subst dS;have f0:0<l.length:=by cases l<;>simp_all
 rcases g3 with⟨hc,cg⟩|⟨hc,he,hz,eQ,bA⟩;cases mx with
 |none=>
  simp only at hu;subst hu;obtain⟨b1,b2,b3,b4⟩:=SQ hb cg;have tH:(cond tt (Nat.beq h l.length) false=true)->c-a=h-a/\c-a<bY:=fun hh=>by rcases tt with _|_;simp at hh;simp at hh;have:=(ht rfl).1;omega
  cases vX:Nat.beq c a with
  |true=>
   have:c=a:=by simpa[beq_eq]using vX
   exact .inl ⟨_,by simp only[o5,hd,pF hc,zC,b1,hs,vX]<;>rfl,YI g1 g2 b3 (fun h1=>by omega) tH (fun h1=>by omega)⟩
  |false=>exact .inl ⟨_,by simp only[o5,hd,pF hc,zC,zD,b1,hs,vX]<;>rfl,YI g1 g2 b3 (fun h1=>rfl) tH (fun h1=>.inl (by omega))⟩
 |some vm=>
  simp only at hu;rw[hu.2];obtain⟨b0,b1,b2,b3,b4⟩:=Py hb;have tH:Nat.beq m h=true->m-a=h-a/\m-a<bY:=fun hh=>by simp at hh;omega
  cases vX:Nat.beq m a with
  |true=>
   have:m=a:=by simpa[beq_eq]using vX
   exact .inl ⟨_,by simp only[o5,hd,pF hc,zC,b4 c (by omega),hs,vX]<;>rfl,YI g1 g2 (by omega) (fun h1=>by omega) tH (fun h1=>by omega)⟩
  |false=>exact .inl ⟨_,by simp only[o5,hd,pF hc,zC,zD,b4 c (by omega),hs,vX]<;>rfl,YI g1 g2 (by omega) (fun h1=>rfl) tH (fun h1=>.inl (by omega))⟩
 obtain⟨d,rfl⟩:∃d,c=bY+d:=⟨c-bY,by omega⟩;have B6:bR (bY+d)=d:=by simp[bR]
 rw[B6]at eQ;subst he;have htt:tt=false:=by rcases tt with _|_;rfl;exact absurd (ht rfl).2 (by omega)
 subst htt;cases mx with
 |none=>simp only[zD]at hu;subst hu;obtain⟨b1,b2,b3,b4⟩:=SQ hb (zF _);obtain⟨s1,s2⟩:=qqj hd hs hz (i:=i) (n:=l.length) (d:=d) f0 eQ (qrf g1) bA hb;split at s2;exact .inr (.inl ⟨s1,_,s2,YI g1 g2 b3 (fun _=>by rw[eQ,Nat.add_mul]) (fun h=>by cases h) (fun _=>.inr ⟨by omega,rfl,hz,by simp[bR]⟩)⟩);refine .inr (.inr ⟨s1,s2.1,_,s2.2,?_⟩);have hn:(qI l a h)=[]:=List.eq_nil_of_length_eq_zero (by rw[qyn b3];omega);rw[hn];simp only[aD];exact .inr ⟨x.s.nx,0,bY,rfl,(fun h=>by cases h),.inl trivial⟩
 |some vm=>
  simp only at hu;rw[hu.2];obtain⟨b0,b1,b2,b3,b4⟩:=Py hb;obtain⟨s1,s2⟩:=qty hd hs hz (i:=i) (n:=l.length) (d:=d) f0 eQ (qrf g1) bA hb hu.1;have tH:Nat.beq m h=true->m-a=h-a/\m-a<bY:=fun hh=>by simp at hh;omega
  cases vX:Nat.beq m a with
  |true=>
   have:m=a:=by simpa[beq_eq]using vX
   rw[vX,zC]at s2;exact .inr (.inl ⟨s1,_,s2,YI g1 g2 (by omega) (fun h1=>by omega) tH (fun h1=>by omega)⟩)
  |false=>rw[vX,zD]at s2;exact .inr (.inl ⟨s1,_,s2,YI g1 g2 (by omega) (fun h1=>rfl) tH (fun h1=>.inl (by omega))⟩)
def z66(hx:kM x){a u:U}{va:M}(h:IZ T x.O t a lo hi mx=some u)(ha:aD x a va):qy8 T x t u va lo hi mx:=by
 unfold IZ at h;rcases hd:T.und t with _|d;simp[hd]at h;cases d with
 |string=>
  simp only[hd]at h;cases a with
  |str s=>cases mx with|some _=>simp at h|none=>simp only at h;rcases hb:i7 s.length s.length lo hi none with _|q;simp[hb]at h;obtain⟨l,hh,m⟩:=q;simp only[hb,zA]at h;subst h;simp only[aD]at ha;subst ha;exact .inl ⟨.string ⟨((s.take hh).drop l).toArray⟩,by simp[o5,hd,hb],by simp[aD,qI]⟩
  |_=>simp at h
 |slice e=>
  simp only[hd]at h;rcases hs:cO T e with _|sz;simp[hs]at h;simp only[hs]at h;cases a with
  |nils=>simp only at h;simp only[aD]at ha;subst ha;rcases hb:i7 0 0 lo hi mx with _|q;simp[hb]at h;obtain⟨l,hh,m⟩:=q;simp only[hb,zA]at h;subst h;obtain⟨rfl,rfl,rfl⟩:=yj hb;exact .inl ⟨.slice none 0 0,by simp[o5,hd,hb,hs,G4],by simp[aD]⟩
  |sl k off n c=>
   simp only at h;rcases hl:bW x.O k 0 with _|_;simp[hl]at h;simp only[hl,zC]at h;rcases hb:i7 n c lo hi mx with _|q;simp[hb]at h;obtain⟨l,hh,m⟩:=q;simp only[hb,zA]at h;subst h;obtain⟨i,jJ,rfl,hc,v7⟩:=OP hl ha;obtain⟨_,hmc⟩:=z79 hb;have hhm:=z7a hb v7;cases vX:Nat.beq m l with
   |true=>exact .inl ⟨_,by simp only[o5,hd,pF hc,zC,hb,hs,vX]<;>rfl,zao ha jJ (by omega) (by omega)⟩|false=>exact .inl ⟨_,by simp only[o5,hd,pF hc,zC,zD,hb,hs,vX]<;>rfl,zao ha jJ (by omega) (by omega)⟩
  |vl k st off n=>
   simp only at h;rcases hv:wG x.O k st with _|q;simp[hv]at h;obtain⟨r,e',j7⟩:=q;obtain⟨hg,hl⟩:=kq hv;simp only[hv,beq_eq]at h;by_cases hz:j7=sz;subst hz;simp only[yC,zC]at h;cases mx with
   |some _=>simp at h|none=>
    simp only at h;rcases hb:i7 n n lo hi none with _|q;simp[hb]at h;obtain⟨l,hh,m⟩:=q;simp only[hb]at h;split at h;rename_i bA;simp only[zA]at h;subst h;obtain⟨l0,e0,Nx,Q8,uO⟩:=YL hl ha;have hgg:(some (B.vec r e' j7 st))=some (.vec l0 e0 Nx st):=hg.symm.trans Q8;cases hgg;obtain⟨_,k1,k2,h3⟩:=hx.ok k _ hg;have zero:∀o c,n=0->va=.slice o 0 c->(∀a,o=some a->a.spot=none)->(o=none->c=0)->∃o' c',o5 T t va lo hi none=some (.slice o' 0 c')/\(c=0->c'=0)/\(∀a,o'=some a->a.spot=none)/\(o=none->o'=none)/\(∀a,o=some a->∃a',o'=some a')/\(¬ c<bY->o'=o/\c'=c):=by
     rintro o c rfl rfl v6 ho;obtain⟨b1,b2,b3,b4⟩:=SQ hb (Nat.zero_le c);obtain rfl:hh=0:=by omega
     obtain rfl:l=0:=by omega
     by_cases hc:c<bY;rcases o with _|a;exact⟨none,c,by simp[o5,hd,pF hc,b1,hs],by simp,by simp,by simp,by simp,fun hn=>absurd hc hn⟩;rcases vX:Nat.beq c 0 with _|_;exact⟨some ⟨a.block,a.off+0*j7,none⟩,c,by simp only[o5,hd,pF hc,b1,hs,vX,zC,zD,Nat.sub_zero],by simp,by simp,by simp,by simp,fun hn=>absurd hc hn⟩;exact⟨some a,c,by simp only[o5,hd,pF hc,b1,hs,vX,zC,Nat.sub_zero],by simp,by simpa using v6 a rfl,by simp,by simp,fun hn=>absurd hc hn⟩;rcases o with _|a;exact absurd (by rw[ho rfl];simp[bY]) hc;obtain rfl:m=0:=by omega
     exact⟨some a,c,by simp only[o5,hd,H6 hc,zD,emptyS,hb,hs],by simp,by simpa using v6 a rfl,by simp,by simp,fun _=>⟨rfl,rfl⟩⟩
    have NE:n=0->l=0/\hh=0:=fun cf=>by obtain⟨b1,b2,b3,b4⟩:=SQ hb (zF _);omega
    rcases h3 with⟨hr0,kW⟩|⟨i,l',e1,e2,e3⟩;rw[kW]at uO;obtain⟨rfl,rfl,o,rfl,v6⟩:=uO;obtain⟨rfl,rfl⟩:=NE rfl;obtain⟨o',c',q1,q2,q3,q4,q5,q6⟩:=zero o 0 rfl rfl v6 (fun _=>rfl);rw[q2 rfl]at q1;exact .inl ⟨_,q1,Of ha hg rfl (by rw[kW];exact⟨rfl,rfl,o',rfl,q3⟩)⟩;rw[e1]at uO;rcases uO with⟨h0,rfl,a,c,rfl,v6⟩|rfl;obtain⟨rfl,rfl⟩:=NE rfl;obtain⟨o',c',q1,q2,q3,q4,q5,q6⟩:=zero (some a) c rfl rfl (by simpa using v6) (by simp);obtain⟨a',rfl⟩:=q5 a rfl;exact .inl ⟨_,q1,Of ha hg rfl (by rw[e1];exact .inl ⟨by omega,rfl,a',c',rfl,q3 a' rfl⟩)⟩;by_cases hn:n=0;subst hn;obtain⟨rfl,rfl⟩:=NE rfl;obtain⟨o',c',q1,q2,q3,q4,q5,q6⟩:=zero (some ⟨i,off*j7,none⟩) (bY+off) rfl rfl (by simp) (by simp);obtain⟨rfl,rfl⟩:=q6 (by omega);exact .inl ⟨_,q1,Of ha hg rfl (by rw[e1];exact .inr rfl)⟩;have:=qqj hd hs k2 (i:=i) (n:=n) (d:=off) (by omega) rfl (z0p e2) (by rw[<-e3.2,<-Nat.add_mul];exact bA) hb;obtain⟨s1,s2⟩:=this;split at s2;exact .inr (.inl ⟨s1,_,s2,Of ha hg rfl (by rw[e1];exact .inr rfl)⟩);rename_i aE;obtain⟨b1,b2,b3,b4⟩:=SQ hb (zF _);refine .inr (.inr ⟨s1,s2.1,_,s2.2,?_⟩);have cV:=og ha;have B?:hh-l=0:=by omega
    rw[B?];exact Of (x:=bump x) cV hg rfl (by show LW _ _ _ _ (x.Y k);rw[e1];exact .inl ⟨by omega,rfl,_,_,rfl,rfl⟩);cases h
   simp[hz]at h
  |isl tt l=>simp only at h;split at h;rename_i cR;rcases hb:i7 l.length l.length lo hi mx with _|q;simp[hb]at h;obtain⟨a,hh,m⟩:=q;simp only[hb]at h;refine z65 hd hs (tt:=tt) cR hb ?_ ha;rcases mx with _|vm;simp only[zA]at h ⊢;exact h.symm;simp only at h ⊢;split at h;rename_i hm;simp only[zA]at h;exact⟨hm,h.symm⟩;cases h;cases h
  |_=>simp at h
 |_=>simp[hd]at h
variable{T:Tb}
variable{x:Cx}
variable{a:U}
variable{u:U}
variable{va:M}
def qxd{st:X}{f:Nat}(h:SP T x.O st a f=some u)(ha:aD x a va):∃v,Pw T st va f=some v/\aD x u v:=by
 unfold SP at h;unfold Pw;rcases hd:T.und st with _|d;simp[hd]at h;cases d with
 |struct fs=>
  simp only[hd]at h ⊢;rcases hf:nth fs.toList f with _|fd;simp[hf]at h;simp only[hf]at h ⊢;rcases hs:cO T fd.type with _|n;simp[hs]at h;cases n with
  |zero=>simp[hs]at h|succ n=>
   simp only[hs]at h;cases a with
   |ptr k s off=>simp only at h;rcases hl:bW x.O k s with _|_;simp[hl]at h;simp only[hl,zC,zA]at h;subst h;obtain⟨i,hi,rfl⟩:=YR hl ha;exact⟨_,rfl,z5p ha hi⟩
   |iptr l=>simp only[zA]at h;subst h;simp only[aD]at ha;obtain⟨i,off,row,e,rfl,h2,h3,h4⟩:=ha;refine⟨_,rfl,?_⟩;simp only[aD];exact⟨i,off+fd.offset,row,e,rfl,h2,by rw[<-List.drop_drop];exact h3.drop _,H8 h4 _⟩
   |_=>simp at h
 |_=>simp[hd]at h
def z3g{st:X}{f:Nat}(h:ad T st a f=some u)(ha:aD x a va):∃v,Om T st va f=some v/\aD x u v:=by
 unfold ad at h;unfold Om;rcases hd:T.und st with _|d;simp[hd]at h;cases d with
 |struct fs=>
  simp[hd]at h ⊢;rcases hf:nth fs.toList f with _|fd;simp[hf]at h;simp[hf]at h ⊢;cases a with
  |agg cs=>simp[aD]at ha;obtain⟨vs,rfl,h1,h2,h3⟩:=ha;exact qzn h ⟨h1,h2⟩ h3
  |_=>simp at h
 |_=>simp[hd]at h
def OK{i:Int}{n:Nat}(h:0<=i/\i<n):sH i n=true:=by
 unfold sH;cases i with
 |ofNat k=>exact pF (by have:=h.2;simp at this;exact this)|negSucc k=>have:=h.1;omega
variable{t:X}
def qxi(hx:kM x){b:U}{vb:M}(h:BQ T x.O t a b=some u)(ha:aD x a va)(hb:aD x b vb):∃v,Pp T t va vb=some v/\aD x u v:=by
 unfold BQ at h;cases b with
 |int k i=>
  simp only[aD]at hb;subst hb;simp only[Pp];simp only at h;rcases hd:T.und t with _|d;simp[hd]at h;cases d with
  |slice e=>
   simp only[hd]at h;rcases hs:cO T e with _|sz;simp[hs]at h;simp only[hs]at h;cases a with
   |sl k off n c=>simp only at h;rcases hl:bW x.O k 0 with _|_;simp[hl]at h;simp only[hl,zC]at h;split at h;rename_i jD;simp only[zA]at h;subst h;obtain⟨i',hi,rfl,_⟩:=OP hl ha;refine⟨_,by simp only[OK jD,zC,hs]<;>rfl,?_⟩;obtain⟨b,q1,q2⟩:=Qf hl;simp only[aD]at ha ⊢;exact⟨rfl,ha.2.1,fun b hb=>⟨Nat.zero_le _,fun _=>⟨i',hi,rfl⟩⟩⟩;cases h
   |vl k st off n=>simp only at h;rcases hv:wG x.O k st with _|q;simp[hv]at h;obtain⟨l,e',j7⟩:=q;obtain⟨hg,hl⟩:=kq hv;simp only[hv,beq_eq]at h;by_cases hz:j7=sz;subst hz;simp only[yC,zC]at h;split at h;rename_i jD;simp only[zA]at h;subst h;obtain⟨i',l0,e0,Nx,l',h1,h2,rfl,h4,h5,h6,h7⟩:=it hx hl ha (by omega);have:=hg.symm.trans h1;cases this;refine⟨_,by simp only[OK ⟨jD.1,jD.2.1⟩,zC,hs]<;>rfl,?_⟩;simp only[aD]at ha ⊢;refine⟨rfl,ha.2.1,fun b hb=>⟨(ha.2.2 b hb).1,fun _=>⟨i',h2,rfl⟩⟩⟩;cases h;simp[hz]at h
   |isl tt l=>simp only at h;split at h;rename_i jD;rcases hc:l[i.toNat]? with _|c;simp[hc]at h;simp only[hc,beq_eq]at h;by_cases hz:c.length=sz;simp only[hz,yC,zC,zA]at h;subst h;simp only[aD]at ha;rcases ha with⟨rfl,_⟩|⟨i',off,c',rfl,ht,dA⟩;simp at hc;rcases dA with rfl |⟨row,e',j7,g1,g2,g3⟩;simp at hc;obtain⟨q1,q2,q3⟩:=jn g2 _ _ hc;refine⟨_,by simp only[OK jD,zC,hs]<;>rfl,?_⟩;simp only[aD];refine⟨i',off+i.toNat*sz,row,e',rfl,g1,?_,q2⟩;rw[List.drop_drop]at q3;rw[<-hz,q1];exact q3;simp[hz]at h;cases h
   |_=>simp at h
  |array n e=>
   simp only[hd]at h;rcases hs:cO T e with _|sz;simp[hs]at h;simp only[hs]at h;cases a with
   |ptr k st off=>simp only at h;rcases hl:bW x.O k st with _|_;simp[hl]at h;simp only[hl,zC]at h;split at h;rename_i jD;simp only[zA]at h;subst h;obtain⟨i',hi,rfl⟩:=YR hl ha;exact⟨_,by simp only[OK jD,zC,hs]<;>rfl,z5p ha hi⟩;cases h
   |iptr l=>simp only at h;split at h;rename_i jD;simp only[zA]at h;subst h;simp only[aD]at ha;obtain⟨i',off,row,e',rfl,h2,h3,h4⟩:=ha;refine⟨_,by simp only[OK jD,zC,hs]<;>rfl,?_⟩;simp only[aD];exact⟨i',_,row,e',rfl,h2,by rw[<-List.drop_drop];exact h3.drop _,H8 h4 _⟩;cases h
   |_=>simp at h
  |_=>simp[hd]at h
 |_=>simp at h
def z46{b:U}{vb:M}(h:xh T t a b=some u)(ha:aD x a va)(hb:aD x b vb):∃v,YB T t va vb=some v/\aD x u v:=by
 unfold xh at h;cases a with
 |agg cs=>
  simp only at h;cases b with
  |int k i=>
   simp only[aD]at ha hb;subst hb;obtain⟨vs,rfl,h1,h2,h3⟩:=ha;simp only at h;rcases hd:T.und t with _|d;simp[hd]at h;cases d with
   |array n e=>simp only[hd]at h;split at h;rename_i jD;rcases hs:cO T e with _|sz;simp[hs]at h;simp[hs]at h;have⟨v,q1,q2⟩:=qzn h ⟨h1,h2⟩ h3;exact⟨v,by simp[YB,hd,OK jD,zC,hs];exact q1,q2⟩;cases h
   |_=>simp[hd]at h
  |_=>simp at h
 |_=>exact V1 h ha hb
def zbv(hx:kM x)(h:lenU T x.O t a=some u)(ha:aD x a va):
  ∃ v,(FE T t va=some v\/(FE T t va=none/\∃ kt et r,T.und t=some (.map kt et)/\va = .map r/\(match r with
     |none=>some (Value.int .i64 0)|some r=>match lk x.s.h r with
      |some (.inr (es,_))=>some (.int .i64 es.length)|_=>none)=some v))/\aD x u v:=by
 unfold lenU at h;unfold FE;rcases hd:T.und t with _|d;simp[hd]at h;cases d with
 |string=>
  simp only[hd]at h ⊢;cases a with
  |str s=>simp only[zA]at h;subst h;simp only[aD]at ha;subst ha;exact⟨_,.inl rfl,by simp[aD]⟩|_=>simp at h
 |slice e=>
  simp only[hd]at h ⊢;cases a with
  |nils=>simp only[zA]at h;subst h;simp only[aD]at ha;subst ha;exact⟨_,.inl rfl,by simp[aD]⟩|sl k off n c=>simp only at h;rcases hl:bW x.O k 0 with _|_;simp[hl]at h;simp only[hl,zC,zA]at h;subst h;obtain⟨i,_,rfl,_⟩:=OP hl ha;exact⟨_,.inl rfl,by simp[aD]⟩
  |vl k st off n=>simp only at h;rcases hl:bW x.O k st with _|_;simp[hl]at h;simp only[hl,zC,zA]at h;subst h;obtain⟨_,_,_,_,hv⟩:=YL hl ha;obtain⟨o,c,rfl⟩:=H' hv;exact⟨_,.inl rfl,by simp[aD]⟩
  |isl tt l=>simp only[zA]at h;subst h;simp only[aD]at ha;rcases ha with⟨rfl,rfl |⟨_,rfl⟩⟩|⟨_,_,_,rfl,_⟩<;>exact⟨_,.inl rfl,by simp[aD]⟩
  |_=>simp at h
 |array n e=>simp only[hd]at h ⊢;cases a<;>simp at h<;>subst h<;>exact⟨_,.inl rfl,by simp[aD]⟩|map kt et=>
  simp only[hd]at h ⊢;cases a with
  |nilm=>simp only[zA]at h;subst h;simp only[aD]at ha;subst ha;exact⟨_,.inr ⟨trivial,kt,et,none,rfl,rfl,rfl⟩,by simp[aD]⟩|map k=>
   simp only at h;rcases hg:gt x.O.h k with _|b;simp[hg]at h;cases b with
   |map es cl=>simp only[hg,zA]at h;subst h;obtain⟨i,hi,rfl⟩:=jr (x:=x) (by simp[bW,hg,B.st]) ha;obtain⟨_,i',es',e1,e2,e3⟩:=hx.ok k _ hg;rw[hi]at e1;cases e1;exact⟨.int .i64 es'.length,.inr ⟨trivial,kt,et,some i,rfl,rfl,by simp[e2]⟩,by simp[aD,e3.1]⟩
   |_=>simp[hg]at h
  |_=>simp at h
 |_=>simp[hd]at h
def zba(hx:kM x)(h:G3 T x.O t a=some u)(ha:aD x a va):∃v,LH T t va=some v/\aD x u v:=by
 unfold G3 at h;unfold LH;rcases hd:T.und t with _|d;simp[hd]at h;cases d with
 |slice e=>
  simp[hd]at h ⊢;cases a with
  |nils=>simp[zA]at h;subst h;simp[aD]at ha;subst ha;exact⟨_,rfl,by simp[aD]⟩|sl k off n c=>simp only at h;rcases hl:bW x.O k 0 with _|_;simp[hl]at h;simp[hl,zC,zA]at h;subst h;obtain⟨i,_,rfl,hc,_⟩:=OP hl ha;have mQ:Nat.blt c bY=true:=Nat.ble_eq_true_of_le hc;exact⟨.int .i64 c,by simp[mQ,zC],by simp[aD]⟩
  |_=>simp at h
 |_=>simp[hd]at h
def z8n(hx:kM x){tm:I U}{tv:I M}(ht:bF x tm tv){op:Op}(h:gQ T x.O tm op=some u):rR T x tv op u x.O:=by
 have one:∀v,iZ T tv op=some v->aD x u v->rR T x tv op u x.O:=fun v h1 h2=>rR.same hx (z8h h1) h2;unfold gQ at h;cases op with
 |move o=>have⟨v,h1,h2⟩:=jH ht h;exact one v (by simp[iZ,h1]) h2
 |assign o=>have⟨v,h1,h2⟩:=jH ht h;exact one v (by simp[iZ,h1]) h2
 |pick c a b=>
  simp only at h;rcases hc:c9 tm c with _|cu;simp[hc]at h;have⟨cv,c1,c2⟩:=jH ht hc;cases cu with
  |bool t=>
   simp[aD]at c2;subst c2;cases t with
   |true=>simp[hc]at h;have⟨v,h1,h2⟩:=jH ht h;exact one v (by simp[iZ,c1,h1]) h2
   |false=>simp[hc]at h;have⟨v,h1,h2⟩:=jH ht h;exact one v (by simp[iZ,c1,h1]) h2
  |_=>simp[hc]at h
 |build t ps=>simp only at h;rcases hp:AN tm ps.toList with _|qs;simp[hp]at h;simp[hp]at h;have⟨vs,h1,h2⟩:=f_ ht hp;have⟨v,h3,h4⟩:=z2q h h2;exact one v (by simp[iZ,h1,h3]) h4
 |nilCheck o=>
  simp only at h;rcases ho:c9 tm o with _|a;simp[ho]at h;have⟨va,a1,a2⟩:=jH ht ho;cases a with
  |ptr k st off=>simp[ho]at h;rcases hl:bW x.O k st with _|_;simp[hl]at h;simp[hl,zC,zA]at h;subst h;obtain⟨i,hi,rfl⟩:=YR hl a2;exact one _ (by simp[iZ,a1]) a2
  |iptr l=>simp only[ho,zA]at h;subst h;have a3:=a2;simp only[aD]at a2;obtain⟨i,off,row,e,rfl,_⟩:=a2;exact one _ (by simp[iZ,a1]) a3
  |fn f p q=>
   cases f with
   |func g=>simp[ho,zA]at h;subst h;have a3:=a2;simp[aD]at a2;obtain⟨i,off,rfl,_⟩:=a2;exact one _ (by simp[iZ,a1]) a3
   |_=>simp[ho]at h
  |_=>simp[ho]at h
 |binOp o t a b ty=>simp only at h;rcases ha:c9 tm a with _|au;simp[ha]at h;rcases hb:c9 tm b with _|bu;simp[ha,hb]at h;simp[ha,hb]at h;have⟨va,a1,a2⟩:=jH ht ha;have⟨vb,b1,b2⟩:=jH ht hb;have⟨v,h1,h2⟩:=zb4 hx h a2 b2;exact one v (by simp[iZ,a1,b1,h1]) h2
 |unOp o t a=>simp only at h;rcases ha:c9 tm a with _|au;simp[ha]at h;simp[ha]at h;have⟨va,a1,a2⟩:=jH ht ha;have⟨v,h1,h2⟩:=V2 h a2;exact one v (by simp[iZ,a1,h1]) h2
 |convert s d a=>simp only at h;rcases ha:c9 tm a with _|au;simp[ha]at h;simp[ha]at h;have⟨va,a1,a2⟩:=jH ht ha;have⟨v,h1,h2⟩:=V2 h a2;exact one v (by simp[iZ,a1,h1]) h2
 |makeFunc f a b=>simp only at h;rcases ha:mM tm a.toList with _|au;simp[ha]at h;rcases hb:mM tm b.toList with _|bu;simp[ha,hb]at h;simp[ha,hb,zA]at h;subst h;have⟨va,a1,a2⟩:=OY ht ha;have⟨vb,b1,b2⟩:=OY ht hb;exact one _ (by simp[iZ,a1,b1]<;>rfl) (by simp only[aD];exact⟨va,vb,rfl,a2.1,a2.2,b2.1,b2.2⟩)
 |slice t a lo hi mx=>simp only at h;rcases ha:c9 tm a with _|au;simp[ha]at h;rcases h1:xK tm lo with _|lo';simp[ha,h1]at h;rcases h2:xK tm hi with _|jJ;simp[ha,h1,h2]at h;rcases h3:xK tm mx with _|mx';simp[ha,h1,h2,h3]at h;simp[ha,h1,h2,h3]at h;have⟨va,a1,a2⟩:=jH ht ha;have e1:=g_ ht h1;have e2:=g_ ht h2;have e3:=g_ ht h3;rcases z66 hx h a2 with⟨v,s1,s2⟩|⟨s0,v,s1,s2⟩|⟨s0,s1,v,s2,s3⟩;exact one v (by simp[iZ,a1,e1,e2,e3,s1]) s2;exact rR.same hx (Pn (by simp[iZ,a1,e1,e2,e3,s0]) (by simp[o3,a1,e1,e2,e3,s1])) s2;exact⟨v,bump x,qzh (by simp[iZ,a1,e1,e2,e3,s0]) (by simp[o3,a1,e1,e2,e3,s1]) (by simp[uD,a1,e1,e2,e3,s2]),rfl,s3,z7c hx⟩
 |fieldAddr t a f=>simp only at h;rcases ha:c9 tm a with _|au;simp[ha]at h;simp[ha]at h;have⟨va,a1,a2⟩:=jH ht ha;have⟨v,h1,h2⟩:=qxd h a2;exact one v (by simp[iZ,a1,h1]) h2
 |field t a f=>simp only at h;rcases ha:c9 tm a with _|au;simp[ha]at h;simp[ha]at h;have⟨va,a1,a2⟩:=jH ht ha;have⟨v,h1,h2⟩:=z3g h a2;exact one v (by simp[iZ,a1,h1]) h2
 |indexAddr t a b=>simp only at h;rcases ha:c9 tm a with _|au;simp[ha]at h;rcases hb:c9 tm b with _|bu;simp[ha,hb]at h;simp[ha,hb]at h;have⟨va,a1,a2⟩:=jH ht ha;have⟨vb,b1,b2⟩:=jH ht hb;have⟨v,h1,h2⟩:=qxi hx h a2 b2;exact one v (by simp[iZ,a1,b1,h1]) h2
 |index t a b=>simp only at h;rcases ha:c9 tm a with _|au;simp[ha]at h;rcases hb:c9 tm b with _|bu;simp[ha,hb]at h;simp[ha,hb]at h;have⟨va,a1,a2⟩:=jH ht ha;have⟨vb,b1,b2⟩:=jH ht hb;have⟨v,h1,h2⟩:=z46 h a2 b2;exact one v (by simp[iZ,a1,b1,h1]) h2
 |extract a i=>
  simp only at h;rcases ha:c9 tm a with _|au;simp[ha]at h;simp[ha]at h;have⟨va,a1,a2⟩:=jH ht ha;cases au with
  |tup l=>simp[aD]at a2;obtain⟨vs,rfl,q1,q2⟩:=a2;simp only[ju,jA]at h;have⟨v,h1,h2⟩:=(show bF x l vs from⟨q1,q2⟩).get h;exact one v (by simp[iZ,a1,Hg,jA,h1]) h2
  |_=>simp[ju]at h
 |call c=>
  simp only at h;have⟨callee,args,ats⟩:=c;cases callee with
  |builtin b=>
   cases b with
   |len=>
    simp only at h;rcases ha:mM tm args.toList with _|us;simp[ha]at h;have⟨vs,a1,a2⟩:=OY ht ha;rcases vA:ats.toList with _|⟨t,ts⟩;simp[ha,vA]at h;rcases us with _|⟨a,l⟩;simp[ha]at h;cases l with
    |cons _ _=>simp[ha]at h|nil=>obtain⟨va,vH,rfl,r1,r2⟩:=a2.inv;rw[r2.nil_inv]at a1;simp[ha,vA]at h;obtain⟨v,q1,q2⟩:=zbv hx h r1;rcases q1 with q1 |⟨q0,kt,et,r,hd,rfl,q1⟩;exact one v (by simp[iZ,a1,vA,q1]) q2;refine rR.same hx (Pn (by simp[iZ,a1,vA,q0]) ?_) q2;rcases r with _|r;simp only[o3,a1,vA,hd];exact q1;simp[o3,a1,vA,hd];exact q1
   |cap=>
    simp only at h;rcases ha:mM tm args.toList with _|us;simp[ha]at h;have⟨vs,a1,a2⟩:=OY ht ha;rcases vA:ats.toList with _|⟨t,ts⟩;simp[ha,vA]at h;rcases us with _|⟨a,l⟩;simp[ha]at h;cases l with
    |cons _ _=>simp[ha]at h|nil=>obtain⟨va,vH,rfl,r1,r2⟩:=a2.inv;rw[r2.nil_inv]at a1;simp[ha,vA]at h;have⟨v,q1,q2⟩:=zba hx h r1;exact one v (by simp[iZ,a1,vA,q1]) q2
   |max=>simp only at h;rcases ha:mM tm args.toList with _|us;simp[ha]at h;have⟨vs,a1,a2⟩:=OY ht ha;rcases us with _|⟨a,l⟩;simp[ha]at h;obtain⟨va,vH,rfl,r1,r2⟩:=a2.inv;simp only[ha]at h;rcases h1:toV a with _|v1;simp[h1]at h;rcases h2:eY l with _|v2;simp[h1,h2]at h;simp[h1,h2]at h;have e1:=(AP a v1 h1 x va).1 r1;have e2:=(H7 l v2 h2 x vH).1 r2;subst e1;subst e2;rcases h3:yE SG va vH with _|r;simp[h3]at h;simp[h3]at h;exact one r (by simp[iZ,a1,h3]) ((OF r u h).2 x)
   |min=>simp only at h;rcases ha:mM tm args.toList with _|us;simp[ha]at h;have⟨vs,a1,a2⟩:=OY ht ha;rcases us with _|⟨a,l⟩;simp[ha]at h;obtain⟨va,vH,rfl,r1,r2⟩:=a2.inv;simp only[ha]at h;rcases h1:toV a with _|v1;simp[h1]at h;rcases h2:eY l with _|v2;simp[h1,h2]at h;simp[h1,h2]at h;have e1:=(AP a v1 h1 x va).1 r1;have e2:=(H7 l v2 h2 x vH).1 r2;subst e1;subst e2;rcases h3:yE SF va vH with _|r;simp[h3]at h;simp[h3]at h;exact one r (by simp[iZ,a1,h3]) ((OF r u h).2 x)
   |_=>simp at h
  |_=>simp at h
 |_=>simp at h
def Pu{T:Tb}{x:Cx}{kt:X}{k:M}:∀{es:I ME}{vs:I MapEntry}(i:Nat){r:V (Nat×U)},uE x es vs->BO T kt k es i=some r->
  (r=none/\rE T kt k vs i=some none)\/∃j u v,r=some (j,u)/\rE T kt k vs i=some (some (j,v))/\aD x u v/\i<=j/\∃e e',es[j-i]? = some e/\e.val=u/\vs[j-i]? = some e'/\aD x e.key e'.key/\e'.born=e.born/\e'.val=v
 |[],vs,i,r,hm,h=>by
  simp[BO,zA]at h;subst h;have:vs=[]:=by have:=hm.1;simpa using this.symm
  subst this;exact .inl ⟨rfl,rfl⟩
 |e::es,[],i,r,hm,h=>by have:=hm.1;simp at this
 |e::es,e'::vs,i,r,hm,h=>by
  have⟨v0,q0,q1,q2,q3⟩:=hm.2 0 e rfl;simp at q0;subst q0;have dK:uE x es vs:=⟨by have:=hm.1;simpa using this,fun j d hd=>by simpa using hm.2 (j+1) d (by simpa using hd)⟩;simp[BO]at h;rcases hk:toV e.key with _|k';simp[hk]at h;simp[hk]at h;have ek:=(AP _ _ hk x _).1 q1;rcases he:eqv T 50 kt k k' with _|b;simp[he]at h;cases b with
  |true=>simp[he,zA]at h;subst h;exact .inr ⟨i,e.val,e'.val,rfl,by simp[rE,ek,he],q2,zF _,e,e',by simp,rfl,by simp,q1,q3,rfl⟩|false=>simp[he]at h;rcases Pu (i+1) dK h with⟨h1,h2⟩|⟨j,u,v,h1,h2,h3,h4,d,d',h5,h6,h7,h8⟩;exact .inl ⟨h1,by simp[rE,ek,he,h2]⟩;refine .inr ⟨j,u,v,h1,by simp[rE,ek,he,h2],h3,by omega,d,d',?_,h6,?_,h8⟩;rw[show j-i=(j-(i+1))+1 by omega];simpa using h5;rw[show j-i=(j-(i+1))+1 by omega];simpa using h7
def qz3{l:I U}{off:Nat}{lv:I M}(h:GQ T t l off=some u)(hl:cU x l lv)(hk:okL l=true):
  ∃v,(match T.und t with
    |none=>none|some d=>cond (sE d) (match cO T t with
      |some n=>match xA lv off n with
       |some cs=>some (.agg cs.toArray)|none=>none
      |none=>none) (nth lv off))=some v/\aD x u v:=by
 unfold GQ at h;rcases hd:T.und t with _|d;simp[hd]at h;simp[hd]at h ⊢;cases ha:sE d with
 |true=>
  simp[ha,zC]at h ⊢;rcases hs:cO T t with _|n;simp[hs]at h;simp[hs]at h ⊢;rcases hg:lB l off n with _|cs;simp[hg]at h;simp[hg,zA]at h;subst h;obtain⟨h1,rfl⟩:=SS hg;have bA:=cU.len hl;rw[v03 (by omega)];refine⟨_,rfl,?_⟩;simp only[aD];have:=(hl.drop off).takeE;have e1:bF x ((l.drop off).take n) ((lv.drop off).take n):=by refine bF.mk' (by simp;omega) fun i u hu=>?_;rw[List.getElem?_take]at hu ⊢;split at hu;rename_i aE;simp only[aE,if_true];exact(J8 x _ _).1 (hl.drop off) i u hu;cases hu
  exact⟨_,rfl,e1.1,e1.2,OR (H8 hk _) _⟩
 |false=>simp[ha,zD,jA]at h ⊢;exact(J8 x _ _).1 hl _ _ h
def qnr(hx:kM x){k st:Nat}{l:I U}(h:cellsOf x.O k st=some l){off:Nat}{v:M}(hr:aD x (.ptr k st off) v):
  ∃i lv e md,x.Y k=some i/\v=.pointer (some ⟨i,off,none⟩)/\lk x.s.h i=some (.inl (lv,e,md))/\md≠1/\bF x l lv/\okL l=true/\
   ((md=0/\gt x.O.h k=some (.row l e))\/(∃sz,md=sz+2/\0<sz/\gt x.O.h k=some (.vec l e sz st))):=by
 unfold cellsOf at h;rcases hg:gt x.O.h k with _|b;simp[hg]at h;cases b with
 |row l' e=>simp[hg,beq_eq]at h;by_cases bZ:0=st;subst bZ;simp at h;subst h;obtain⟨i,hi,rfl⟩:=YR (x:=x) (by simp[bW,hg,B.st]) hr;obtain⟨_,k1,i',lv,e1,e2,e3⟩:=hx.ok k _ hg;rw[hi]at e1;cases e1;exact⟨i,lv,e,0,hi,rfl,e2,by omega,e3,k1,.inl ⟨rfl,rfl⟩⟩;simp[bZ]at h
 |vec l' e sz cT=>simp[hg,beq_eq]at h;by_cases bZ:cT=st;subst bZ;simp at h;subst h;obtain⟨i,hi,rfl⟩:=YR (x:=x) (by simp[bW,hg,B.st]) hr;obtain⟨_,k1,k2,h3⟩:=hx.ok k _ hg;rcases h3 with⟨h4,h5⟩|⟨i',lv,e1,e2,e3⟩;rw[hi]at h5;cases h5;rw[hi]at e1;cases e1;exact⟨i,lv,e,sz+2,hi,rfl,e2,by omega,e3,k1,.inr ⟨sz,rfl,k2,rfl⟩⟩;simp[bZ]at h
 |map es cl=>simp[hg]at h
def qzs(hx:kM x){tm:I U}{tv:I M}(ht:bF x tm tv){op:Op}(h:nI T x.O tm op=some u):rR T x tv op u x.O:=by
 unfold nI at h;cases op with
 |load t o=>
  simp only at h;rcases ho:c9 tm o with _|a;simp[ho]at h;have⟨va,a1,a2⟩:=jH ht ho;cases a with
  |ptr k st off=>simp[ho]at h;rcases hc:cellsOf x.O k st with _|l;simp[hc]at h;simp[hc]at h;obtain⟨i,lv,e,md,q1,rfl,q2,_,q3,q4,_⟩:=qnr hx hc a2;obtain⟨v,r1,r2⟩:=qz3 h q3.1 q4;exact rR.same hx (Pn (by simp[iZ]) (by simp[o3,a1,q2];exact r1)) r2
  |iptr l=>
   simp only[ho]at h;simp only[aD]at a2;obtain⟨i,off,row,e,rfl,g1,g2,g3⟩:=a2;obtain⟨v,r1,r2⟩:=qz3 h g2 g3;refine rR.same hx (Pn (by simp[iZ]) (v:=v) ?_) r2;simp[o3,a1,g1];rcases hd:T.und t with _|d;simp[hd]at r1;simp[hd]at r1 ⊢;cases ha:sE d with
   |true=>simp[ha,zC]at r1 ⊢;rcases hs:cO T t with _|n;simp[hs]at r1;simp[hs,xA,List.drop_drop,Nat.add_zero]at r1 ⊢;exact r1
   |false=>simp[ha,zD,jA,List.getElem?_drop,Nat.add_zero]at r1 ⊢;exact r1
  |_=>simp[ho]at h
 |lookup t a b ok=>
  simp only at h;rcases hd:T.und t with _|d;simp[hd]at h;cases d with
  |map kt et=>
   rcases ha:c9 tm a with _|m;simp[hd,ha]at h;rcases hb:c9 tm b with _|ku;simp[hd,ha,hb]at h;simp[hd,ha,hb]at h;have⟨va,a1,a2⟩:=jH ht ha;have⟨vb,b1,b2⟩:=jH ht hb;rcases hk:toV ku with _|kv;simp[hk]at h;simp[hk]at h;have ekv:=(AP _ _ hk x vb).1 b2;subst ekv;rcases v8:pA T 50 kt vb with _|_;simp[v8]at h;simp[v8,zC]at h;have key:∀ (es:I ME) (vs:I MapEntry),(va = .map none/\vs=[]\/∃ i cl,va = .map (some i)/\lk x.s.h i=some (.inr (vs,cl)))->uE x es vs->(match BO T kt vb es 0 with
      |none=>none|some (some (_,v))=>some (cond ok (.tup [v,.bool true]) v)
      |some none=>match T.inf et with
       |some (_,_,z)=>(match iN z with
        |some zu=>some (cond ok (.tup [zu,.bool false]) zu)|none=>none)
       |none=>none)=some u->rR T x tv (.lookup t a b ok) u x.O:=by
    intro es vs e1 e3 h;have fin:∀v,o3 T tv x.s (.lookup t a b ok)=some v->aD x u v->rR T x tv (.lookup t a b ok) u x.O:=fun v h1 h2=>rR.same hx (Pn (by simp[iZ]) h1) h2;have IG:∀(p:U)(q:M)(bb:Bool),aD x p q->aD x (cond ok (.tup [p,.bool bb]) p) (cond ok (.tuple #[q,.bool bb]) q):=fun p q bb HD=>by rcases ok with _|_;exact HD;simp only[zC,aD];exact⟨[q,.bool bb],rfl,by simp[cU,HD,aD],rfl⟩
    rcases hf:BO T kt vb es 0 with _|r';simp[hf]at h;rcases Pu 0 e3 hf with⟨rfl,h2⟩|⟨j,w,v,rfl,h2,h3,_⟩;simp[hf]at h;rcases hi:T.inf et with _|q;simp[hi]at h;have⟨q1,q2,z⟩:=q;simp[hi]at h;rcases hz:iN z with _|zu;simp[hz]at h;simp[hz,zA]at h;subst h;have nN:o3 T tv x.s (.lookup t a b ok)=some (cond ok (.tuple #[z,.bool false]) z):=by rcases e1 with⟨rfl,rfl⟩|⟨i,cl,rfl,e1⟩;simp[o3,hd,a1,b1,v8,zC,h2,hi];simp[o3,hd,a1,b1,v8,zC,e1,h2,hi]
    exact fin _ nN (IG _ _ _ ((OF _ _ hz).2 x));simp[hf,zA]at h;subst h;have nN:o3 T tv x.s (.lookup t a b ok)=some (cond ok (.tuple #[v,.bool true]) v):=by rcases e1 with⟨rfl,rfl⟩|⟨i,cl,rfl,e1⟩;simp[o3,hd,a1,b1,v8,zC,h2];simp[o3,hd,a1,b1,v8,zC,e1,h2]
    exact fin _ nN (IG _ _ _ h3)
   cases m with
   |nilm=>simp[aD]at a2;exact key [] [] (.inl ⟨a2,rfl⟩) ⟨rfl,by simp⟩ h|map r=>
    simp only at h;rcases hg:gt x.O.h r with _|bb;simp[hg]at h;cases bb with
    |map es cl=>simp[hg]at h;obtain⟨i,hi,rfl⟩:=jr (x:=x) (by simp[bW,hg,B.st]) a2;obtain⟨_,i',es',e1,e2,e3⟩:=hx.ok r _ hg;rw[hi]at e1;cases e1;exact key es es' (.inr ⟨i,cl,rfl,e2⟩) e3 h
    |_=>simp[hg]at h
   |_=>simp at h
  |_=>simp[hd]at h
 |_=>simp at h
variable{x:Cx}
variable{k:Nat}
variable{b:B}
def oS.mono{y:Cx}(h:oS x k b)(hm:Mo x.O.nx x y)(kW:y.Y k=x.Y k)(hl:∀i c,x.Y k=some i->lk x.s.h i=some c->lk y.s.h i=some c):oS y k b:=by
 have relm:∀{es:I ME}{es':I MapEntry},uE x es es'->uE y es es':=fun{es es'} e3=>⟨e3.1,fun j e he=>by have⟨v,q1,q2,q3,q4⟩:=e3.2 j e he;exact⟨v,q1,hm.ke _ _ (aD.bel _ _ q2) q2,hm.ke _ _ (aD.bel _ _ q3) q3,q4⟩⟩;cases b with
 |row l e=>have⟨k1,i,l',e1,e2,e3⟩:=h;exact⟨k1,i,l',by rw[kW,e1],hl _ _ e1 e2,hm.ke.E e3.bel e3⟩
 |vec l e sz st=>have⟨k1,k2,h3⟩:=h;refine⟨k1,k2,?_⟩;rcases h3 with⟨h3,h4⟩|⟨i,l',e1,e2,e3⟩;exact .inl ⟨h3,by rw[kW,h4]⟩;exact .inr ⟨i,l',by rw[kW,e1],hl _ _ e1 e2,hm.ke.E e3.bel e3⟩
 |map es cl=>have⟨i,es',e1,e2,e3⟩:=h;exact⟨i,es',by rw[kW,e1],hl _ _ e1 e2,relm e3⟩
def oS.not1{i:Nat}(h:oS x k b)(hi:x.Y k=some i){row:I M}{e:X}:lk x.s.h i≠some (.inl (row,e,1)):=by
 intro hl;cases b with
 |row l e'=>have⟨_,i',l',e1,e2,_⟩:=h;rw[hi]at e1;cases e1;rw[hl]at e2;cases e2
 |vec l e' sz st=>have⟨_,_,h3⟩:=h;rcases h3 with⟨_,h4⟩|⟨i',l',e1,e2,_⟩;rw[hi]at h4;cases h4;rw[hi]at e1;cases e1;rw[hl]at e2;cases e2
 |map es cl=>have⟨i',es',e1,e2,_⟩:=h;rw[hi]at e1;cases e1;rw[hl]at e2;cases e2
def step1{y:Cx}(hx:kM x)(K:Nat)(bK:B)(hn:x.O.nx<=y.O.nx)(hK:K<y.O.nx)(wN:∀k,k≠K->gt y.O.h k=gt x.O.h k/\y.Y k=x.Y k)(iB:gt y.O.h K=some bK)
  (lJ:(∃b0,gt x.O.h K=some b0/\b0.st<=bK.st/\(b0.st=bK.st->y.Y K=x.Y K/\∀l e sz st,b0=.vec l e sz st->∃l',bK=.vec l' e sz st))\/(gt x.O.h K=none/\x.O.nx<=K)) (oM:∀i b,lk x.s.h i=some b->(∀c,gt x.O.h K=some c->x.Y K≠some i)->lk y.s.h i=some b)
  (tP:∀i,y.Y K=some i->(∃c,gt x.O.h K=some c/\x.Y K=some i)\/x.s.nx<=i) (gX:∀i b,lk y.s.h i=some b->i<y.s.nx) (hB:Mo x.O.nx x y->oS y K bK):Out x y:=by
 have gD:Mo x.O.nx x y:=by refine⟨fun k hk _=>⟨by omega,fun b' cV=>?_⟩,fun i row e hl=>oM i _ hl fun c hc he=>(hx.ok K c hc).2.not1 he hl⟩;by_cases e:k=K;subst e;rw[iB]at cV;cases cV;rcases lJ with⟨b0,h1,h2,h3⟩|⟨_,h2⟩;exact⟨b0,h1,h2,h3⟩;omega;have⟨h1,h2⟩:=wN k e;exact⟨b',by rw[<-h1,cV],zF _,fun _=>⟨h2,fun l e sz st h=>⟨l,h⟩⟩⟩
 have d5:∀k b i c,k≠K->gt x.O.h k=some b->x.Y k=some i->gt x.O.h K=some c->x.Y K≠some i:=fun k b i c hk hb hi hc he=>hk (hx.inj k K b c i hb hc hi he);refine⟨⟨fun k b hb=>?_,fun k k' b b' i hb cV hi jJ=>?_,gX⟩,gD,fun F J i b hb=>?_⟩;by_cases e:k=K;subst e;rw[iB]at hb;cases hb;exact⟨hK,hB gD⟩;have⟨h1,h2⟩:=wN k e;rw[h1]at hb;have⟨h3,h4⟩:=hx.ok k b hb;exact⟨by omega,h4.mono gD h2 fun i c hi hl=>oM i c hl fun d hd=>d5 k b i d e hb hi hd⟩;have own:∀k b i,k≠K->gt y.O.h k=some b->y.Y k=some i->gt x.O.h k=some b/\x.Y k=some i/\i<x.s.nx:=fun k b i e hb hi=>by
  have⟨h1,h2⟩:=wN k e;rw[h1]at hb;rw[h2]at hi;refine⟨hb,hi,?_⟩;have:=(hx.ok k b hb).2;cases b with
  |row l e=>have⟨_,i',l',e1,e2,_⟩:=this;rw[hi]at e1;cases e1;exact hx.bd _ _ e2
  |vec l e' sz st=>have⟨_,_,h3⟩:=this;rcases h3 with⟨_,h4⟩|⟨i',l',e1,e2,_⟩;rw[hi]at h4;cases h4;rw[hi]at e1;cases e1;exact hx.bd _ _ e2
  |map es cl=>have⟨i',es',e1,e2,_⟩:=this;rw[hi]at e1;cases e1;exact hx.bd _ _ e2
 by_cases e:k=K;by_cases e':k'=K;rw[e,e'];exfalso;subst e;have⟨q1,q2,q3⟩:=own k' b' i e' cV jJ;rcases tP i hi with⟨c,hc,mQ⟩|wQ;exact e' (hx.inj k' k b' c i q1 hc q2 mQ);omega;by_cases e':k'=K;exfalso;subst e';have⟨q1,q2,q3⟩:=own k b i e hb hi;rcases tP i jJ with⟨c,hc,mQ⟩|wQ;exact e (hx.inj k k' b c i q1 hc q2 mQ);omega;have⟨q1,q2,_⟩:=own k b i e hb hi;have⟨q3,q4,_⟩:=own k' b' i e' cV jJ;exact hx.inj k k' b b' i q1 q3 q2 q4;have⟨h1,h2⟩:=J i b hb;refine⟨oM i b h1 fun c hc=>h2 K c hc,fun k c hc hi=>?_⟩;by_cases e:k=K;subst e;rcases tP i hi with⟨d,hd,bG⟩|wQ;exact h2 k d hd bG;have:=hx.bd i b h1;omega;have⟨q1,q2⟩:=wN k e;rw[q1]at hc;rw[q2]at hi;exact h2 k c hc hi
def mL(Y:Nat->V Nat)(k:Nat)(o:V Nat):Nat->V Nat:=fun j=>if j=k then o else Y j
def re(Y:Nat->V Nat)(k:Nat)(o:V Nat):mL Y k o k=o:=by simp[mL]
def fk(Y:Nat->V Nat){j:Nat}(o:V Nat)(h:j≠k):mL Y k o j=Y j:=by simp[mL,h]
def V0(hx:kM x):gt x.O.h x.O.nx=none:=by rcases h:gt x.O.h x.O.nx with _|b;rfl;have:=(hx.ok _ b h).1;omega
def iy(hx:kM x)(b:B)(c:lU)(hB:∀y:Cx,y.Y x.O.nx=some x.s.nx->lk y.s.h x.s.nx=some c->Mo x.O.nx x y->oS y x.O.nx b):
  Out x ⟨mL x.Y x.O.nx (some x.s.nx),newU x.O b,⟨(x.s.nx,c)::x.s.h,x.s.nx+1⟩⟩:=by refine step1 hx x.O.nx b (by simp[newU]) (by simp[newU]) (fun k hk=>⟨by simp[newU,eA,Ne.symm hk],fk _ _ hk⟩) (by simp[newU,eA]) (.inr ⟨V0 hx,zF _⟩) (fun i d hd _=>?_) (fun i hi=>?_) (fun i d hd=>?_) (fun hm=>?_);have:=hx.bd i d hd;simp[mZ,show x.s.nx≠i by omega,hd];change mL _ _ _ _=some i at hi;rw[re]at hi;cases hi;exact .inr (zF _);simp[mZ]at hd;split at hd;show i<x.s.nx+1;omega;exact Nat.lt_succ_of_lt (hx.bd i d hd);exact hB _ (by simp[mL]) (by simp[mZ]) hm
def kc(hx:kM x)(e:X)(sz:Nat)(dS:0<sz):Out x ⟨mL x.Y x.O.nx none,newU x.O (.vec [] e sz 0),x.s⟩:=by refine step1 hx x.O.nx (.vec [] e sz 0) (by simp[newU]) (by simp[newU]) (fun k hk=>⟨by simp[newU,eA,Ne.symm hk],fk _ _ hk⟩) (by simp[newU,eA]) (.inr ⟨V0 hx,zF _⟩) (fun i d hd _=>hd) (fun i hi=>?_) hx.bd (fun hm=>?_);change mL _ _ _ _=some i at hi;rw[re]at hi;cases hi;exact⟨rfl,dS,.inl ⟨rfl,by simp[mL]⟩⟩
def Pb{c:lU}{st:Nat}(bZ:b.st=st){p:V Nat->Prop}(hp:p (some x.s.nx)):Ref ⟨mL x.Y x.O.nx (some x.s.nx),newU x.O b,⟨(x.s.nx,c)::x.s.h,x.s.nx+1⟩⟩ x.O.nx st p:=by refine⟨by simp[newU],fun b' cV=>?_⟩;simp[newU,eA,if_true,zA]at cV;subst cV;exact⟨Nat.le_of_eq bZ.symm,fun _=>by simpa[mL]using hp⟩
def Ha(hx:kM x){K i:Nat}{b0 bK:B}{c:lU}(h0:gt x.O.h K=some b0)(hi:x.Y K=some i){c0:lU}(KN:lk x.s.h i=some c0)(bZ:b0.st=bK.st)(hv:∀l e sz st,b0=.vec l e sz st->∃l',bK=.vec l' e sz st)
  (hB:∀y:Cx,y.Y K=some i->lk y.s.h i=some c->Mo x.O.nx x y->oS y K bK):Out x ⟨x.Y,⟨ug x.O.h K bK,x.O.nx⟩,⟨up x.s.h i c,x.s.nx⟩⟩:=by refine step1 hx K bK (zF _) (hx.ok K _ h0).1 (fun k hk=>⟨by simp[BN,Ne.symm hk],rfl⟩) (by simp[BN,h0]) (.inl ⟨b0,h0,Nat.le_of_eq bZ,fun _=>⟨rfl,hv⟩⟩) (fun j d hd d5=>?_) (fun j hj=>.inl ⟨b0,h0,hj⟩) (fun j d hd=>?_) (fun hm=>?_);have:i≠j:=fun e=>d5 b0 h0 (by rw[hi,e]);simp[AK,this,hd];simp[AK]at hd;split at hd;rename_i e;subst e;exact hx.bd i _ KN;exact hx.bd j d hd;exact hB _ hi (by simp[AK,KN]) hm
def Hi{zu:I U}{z:I M}(h:bF x zu z)(n:Nat):bF x (vN zu n) (cC z n):=by induction n with|zero=>exact bF.nil x|succ n ih=>simp[vN,List.replicate_succ,List.flatten_cons,cC];exact h.append ih
def ir{zu:I U}(h:okL zu=true)(n:Nat):okL (vN zu n)=true:=by induction n with|zero=>rfl|succ n ih=>simp[vN,List.replicate_succ,List.flatten_cons];exact JE h ih
section
variable{T:Tb}{x:Cx}(hx:kM x){tm:I U}{tv:I M}(ht:bF x tm tv)
include hx
def vg{l:I U}{l':I M}(hl:bF x l l')(hk:okL l=true)(e:X):Out x ⟨mL x.Y x.O.nx (some x.s.nx),newU x.O (.row l e),Rx.newRow x.s l' e 0⟩:=
 iy hx (.row l e) (.inl (l',e,0)) fun y h1 h2 hm=>⟨hk,x.s.nx,l',h1,h2,hm.ke.E hl.bel hl⟩
def vf{l:I U}{l':I M}(hl:bF x l l')(hk:okL l=true)(e:X){sz:Nat}(dS:0<sz):Out x ⟨mL x.Y x.O.nx (some x.s.nx),newU x.O (.vec l e sz 0),Rx.newRow x.s l' e (sz+2)⟩:=
 iy hx (.vec l e sz 0) (.inl (l',e,sz+2)) fun y h1 h2 hm=>⟨hk,dS,.inr ⟨x.s.nx,l',h1,h2,hm.ke.E hl.bel hl⟩⟩
variable{t:X}
variable{r:U}
variable{O':Sg}
def z6d{p u:U}{pv uv:M}(h:Y4 T x.O t p u=some (r,O'))(hp:aD x p pv)(hu:aD x u uv):
  ∃v y,Fy T x.s t pv uv=some (v,y.s)/\y.O=O'/\aD y r v/\Out x y:=by
 unfold Y4 at h;cases p with
 |ptr k st off=>
  simp only at h;rcases hs:cO T t with _|n;simp[hs]at h;simp[hs]at h;rcases hc:xL u with _|cs;simp[hc]at h;simp[hc]at h;have⟨c1,c2⟩:=h_ hu hc;rcases bA:Nat.beq cs.length n with _|_;simp[bA]at h;simp[bA,zC,c2]at h;rcases dA:cellsOf x.O k st with _|l;simp[dA]at h;simp[dA]at h;obtain⟨i,lv,e,md,q1,rfl,q2,q3,q4,q5,q6⟩:=qnr hx dA hp;have c1':=zcv (O:=x.O) (k:=k) c1;have c2':okL (GL x.O k cs)=true:=by rw[WQ];exact c2
  rcases hput:qG l off (GL x.O k cs)with _|l1;simp[hput]at h;simp[hput]at h;obtain⟨rv,p1,p2,p3⟩:=xw hput q4 c1';have p4:=p3 q5 c2';have bZ:Fy T x.s t (.pointer (some ⟨i,off,none⟩)) uv=some (undef,⟨up x.s.h i (.inl (rv,e,md)),x.s.nx⟩):=by
   have yS:cW x.s i=some (lv,e,md):=by unfold cW;rcases q6 with⟨rfl,_⟩|⟨sz,rfl,_⟩<;>simp[q2]
   simp only[Fy,hs];rw[<-c1.2,bA];simp[zC,SX c1 c2,yS,p1]
  rcases q6 with⟨rfl,hg⟩|⟨sz,rfl,hz,hg⟩;simp[M8,hg,zA,zB]at h;have⟨rfl,rfl⟩:=h;exact⟨undef,⟨x.Y,⟨ug x.O.h k (.row l1 e),x.O.nx⟩,⟨up x.s.h i (.inl (rv,e,0)),x.s.nx⟩⟩,bZ,rfl,by simp[aD],Ha hx hg q1 q2 rfl (by simp) fun y h1 h2 hm=>⟨p4,i,rv,h1,h2,hm.ke.E p2.bel p2⟩⟩;simp[M8,hg,zA,zB]at h;have⟨rfl,rfl⟩:=h;exact⟨undef,⟨x.Y,⟨ug x.O.h k (.vec l1 e sz st),x.O.nx⟩,⟨up x.s.h i (.inl (rv,e,sz+2)),x.s.nx⟩⟩,bZ,rfl,by simp[aD],Ha hx hg q1 q2 rfl (by rintro l e sz st h;cases h;exact⟨_,rfl⟩) fun y h1 h2 hm=>⟨p4,hz,.inr ⟨i,rv,h1,h2,hm.ke.E p2.bel p2⟩⟩⟩
 |_=>simp at h
def qvs{n:Nat}{ps:I (Nat×U)}{pv:I (Nat×M)}(h:Qe T x.O t n ps=some (r,O'))(hp:Y3 x ps pv):∃v y,Qd T x.s t n pv=some (v,y.s)/\y.O=O'/\aD y r v/\Out x y:=by
 unfold Qe at h;rcases hd:T.und t with _|d;simp[hd]at h;cases d with
 |slice e=>
  simp only[hd]at h;rcases hi:T.inf e with _|q;simp[hi]at h;obtain⟨sz,by_,z⟩:=q;simp only[hi]at h;rcases h1:Nat.ble (n*sz) 16777216 with _|_;simp[h1]at h;simp only[h1,zC]at h;rcases h2:Nat.ble n 16777216 with _|_;simp[h2]at h;simp only[h2,zC]at h;rcases h3:Nat.beq z.cells.toList.length sz with _|_;simp only[h3,zD]at h;cases h;simp only[h3,zC]at h;rcases h4:qH z.cells.toList with _|zu;simp[h4]at h;simp only[h4]at h;have uN:=(ON _ _ h4).2 x;rcases h5:uY (fun i=>some (i*sz,sz)) (vN zu n) ps with _|cs;simp[h5]at h;simp only[h5]at h;rcases h6:okL cs with _|_;simp[h6]at h;simp only[h6,zC,zA,zB]at h;obtain⟨rfl,rfl⟩:=h;obtain⟨rv,f1,f2⟩:=Pv hp (Hi uN n) h5;have hX:n<bY:=by have:=zY h2;unfold bY;omega
  refine⟨.slice (some ⟨x.s.nx,0,none⟩) n n,_,?_,rfl,?_,vg hx f2 h6 e⟩;simp only[Qd,hd,hi,h1,h3,zC,f1,pF hX];simp only[aD];exact⟨rfl,Pb rfl ⟨x.s.nx,rfl,rfl,hX,zF _⟩⟩
 |_=>simp[hd]at h
def z88{a b:U}{va vb:M}(h:Lr T x.O t a b=some (r,O'))(ha:aD x a va)(hb:aD x b vb):∃v y,Lq T x.s t va vb=some (v,y.s)/\y.O=O'/\aD y r v/\Out x y:=by
 unfold Lr at h;rcases hd:T.und t with _|d;simp[hd]at h;cases d with
 |slice e=>
  cases a with
  |int ka a=>
   cases b with
   |int kb b=>
    simp only[aD]at ha hb;subst ha;subst hb;simp only[hd]at h;rcases hi:T.inf e with _|q;simp[hi]at h;obtain⟨sz,by_,z⟩:=q;simp only[hi]at h;rcases h4:qH z.cells.toList with _|zu;simp[h4]at h;simp only[h4]at h;have uN:=(ON _ _ h4).2 x;rcases h6:okL zu with _|_;simp[h6]at h;simp only[h6,zC]at h;rcases h3:Nat.beq z.cells.toList.length sz with _|_;simp only[h3,zD]at h;cases h;simp only[h3,zC]at h;split at h;rename_i hc;simp only[zA,zB]at h;obtain⟨rfl,rfl⟩:=h;obtain⟨c1,c2,c3,c4⟩:=hc;have Kn:IntKind.i64.wrap a=Int.ofNat a.toNat:=by rw[wrap_i64 (by omega) (by omega)];simp;omega
    have Vy:IntKind.i64.wrap b=Int.ofNat b.toNat:=by rw[wrap_i64 (by omega) (by omega)];simp;omega
    have hX:b.toNat<bY:=by unfold bY;omega
    refine⟨.slice (some ⟨x.s.nx,0,none⟩) a.toNat b.toNat,_,?_,rfl,?_,vg hx (Hi (Ox uN) b.toNat) (ir (by rw[Fx];exact h6) _) e⟩;simp only[Lq,hd,hi,Kn,Vy,h3,zC,pF hX,Nat.ble_eq_true_of_le c3,Nat.ble_eq_true_of_le (show a.toNat<=b.toNat by omega)];simp only[aD];exact⟨rfl,Pb rfl ⟨x.s.nx,rfl,rfl,hX,by omega⟩⟩;cases h
   |_=>simp[hd]at h
  |_=>simp[hd]at h
 |_=>simp[hd]at h
end
end Go.Vx
