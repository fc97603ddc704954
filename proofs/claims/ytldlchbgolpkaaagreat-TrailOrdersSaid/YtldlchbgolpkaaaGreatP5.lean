import Derived.IntWalk
import Derived.Test.YtldlchbgolpkaaaGreatP4
set_option linter.all false
namespace Go.Rx
open Go
def WP(P:Program)(c:Code)(tm:List Value)(s:S)(Q:Exit->List Value->S->Prop):Prop :=
 ∀m w a,gE m s w->vF m s.nx tm a->a.defers=[]->
  c.wp P (fun e a' w'=>∃m' tm' s',Q e tm' s'/\bP m s w m' s' w'/\vF m' s'.nx tm' a'/\a'.defers=[]) a w
def Less(s s':S):Prop:=s.nx<=s'.nx/\∀i b,lk s'.h i=some b->lk s.h i=some b
theorem bP.less{m:Nm}{s s':S}{w:World}(h:gE m s w)(hl:Less s s'):bP m s w m s' w:=by
 refine⟨aK.refl _ _,hl.1,fun m' ha=>?_,?_,fun _ _ _=>rfl,zF _,rfl,rfl,rfl⟩;have hf:=h m' (ha.mono hl.1);exact⟨fun i b hb=>hf.ok i b (hl.2 i b hb),fun i j b c hb hc=>hf.inj i j b c (hl.2 i b hb) (hl.2 j c hc),fun i b hb=>Nat.lt_of_lt_of_le (hf.bd i b (hl.2 i b hb)) hl.1⟩;rintro k ⟨j,d,hd,ho,rfl⟩;exact .inl ⟨j,d,hl.2 j d hd,ho,rfl⟩
theorem wrap_i64{x:Int}(h1 : -9223372036854775808<=x)(h2:x<=9223372036854775807):IntKind.i64.wrap x=x:=IntWalk.i64_in x ⟨h1,h2⟩
section
variable{P:Program}{Q:Exit->List Value->S->Prop}{tm:List Value}{s:S}
theorem WP.exit{id:Nat}(h:Q (.exit id) tm s):WP P (.exit id) tm s Q:=fun m _ _ hf ha hd=>wp_exit ⟨m,tm,s,h,bP.refl hf,ha,hd⟩
def qvp(id:Nat)(Q:Exit->List Value->S->Prop):Exit->List Value->S->Prop
 |.exit id',tm,s=>if id'=id then Q .normal tm s else Q (.exit id') tm s|e,tm,s=>Q e tm s
theorem WP.block{id:Nat}{c:Code}(h:WP P c tm s (qvp id Q)):WP P (.block id c) tm s Q:=fun m w a hf ha hd=>by
 refine wp_block (wp_mono (h m w a hf ha hd) ?_);rintro e a' w' ⟨m',tm',s',h1,h2,h3,h4⟩;cases e with
 |exit id'=>simp only[Exit.inBlock];simp only[qvp]at h1;by_cases N2:id'=id;simp only[N2,if_true]at h1 ⊢;exact⟨m',tm',s',h1,h2,h3,h4⟩;simp only[N2,if_false]at h1 ⊢;exact⟨m',tm',s',h1,h2,h3,h4⟩|_=>exact⟨m',tm',s',h1,h2,h3,h4⟩
variable{T:Tb}(hT:kS P T){call:EF}(hC:Bu P call)
include hT hC
end
def p0(tm:List Value)(op:Op):Option Value :=
 match op with
 |.move x=>evalO tm x|.assign x=>evalO tm x
 |.pick c a b=>match evalO tm c with
  |some (.bool true)=>evalO tm a|some (.bool false)=>evalO tm b
  |_=>none
 |.nilCheck x=>match evalO tm x with
  |some (.pointer (some a))=>some (.pointer (some a))|_=>none
 |.binOp op _ x y _=>match evalO tm x,evalO tm y with
  |some (.int k a),some (.int k' b)=>jI op k a k' b|_,_=>none
 |.unOp op _ x=>match evalO tm x with
  |some a=>OD op a|none=>none
 |.makeFunc fn first cap=>match jK tm first.toList,jK tm cap.toList with
  |some a,some b=>some (.func fn a.toArray b.toArray)|_,_=>none
 |.extract x i=>match evalO tm x with
  |some a=>Cl a i|none=>none
 |.call c=>match c.callee with
  |.builtin .max=>match jK tm c.args.toList with
   |some (x::l)=>xN UN x l|_=>none
  |.builtin .min=>match jK tm c.args.toList with
   |some (x::l)=>xN OT x l|_=>none
  |_=>none
 |_=>none
section
variable{T:Tb}{call:EF}{aA rest:List Oper}{o:Oper}{tm:List Value}{s:S}{K:List Value->S->Prop}
end
section
variable{P:Program}{Q:Exit->List Value->S->Prop}{tm:List Value}{s:S}{T:Tb}(hT:kS P T){call:EF}(hC:Bu P call)
include hT hC
end
end Go.Rx
namespace Go.Vx
open Go Go.Rx
inductive U where
 |junk
 |bool (b:Bool)
 |int (k:IntKind) (n:Int)
 |str (s:List UInt8)
 |nilp
 |ptr (k st off:Nat)
 |iptr (l:List U)
 |nils
 |sl (k off n c:Nat)
 |vl (k st off n:Nat)
 |isl (t:Bool) (l:List (List U))
 |nilm
 |map (k:Nat)
 |fn (f:Fn) (first cap:List U)
 |nilf
 |nili
 |agg (l:List U)
 |tup (l:List U)
 deriving Inhabited
def okC:U->Bool
 |.junk=>false|.agg _=>false
 |.tup _=>false|_=>true
def okL:List U->Bool
 |[]=>true|u::l=>cond (okC u) (okL l) false
theorem LC(l:List U):okL l=true↔∀u∈l,okC u=true:=by
 induction l with|nil=>simp[okL]|cons u l ih=>cases h:okC u<;>simp[okL,h,ih]
structure ME where
 key:U
 val:U
 born:Nat
inductive B where
 |row (l:List U) (e:TypeId)
 |vec (l:List U) (e:TypeId) (sz st:Nat)
 |map (es:List ME) (cl:Nat)
structure Sg where
 h:List (Nat×B)
 nx:Nat
def gt:List (Nat×B)->Nat->Option B
 |[],_=>none|(j,b)::h,i=>cond (Nat.beq j i) (some b) (gt h i)
def ug:List (Nat×B)->Nat->B->List (Nat×B)
 |[],_,_=>[]|(j,b)::h,i,c=>cond (Nat.beq j i) ((j,c)::h) ((j,b)::ug h i c)
theorem lG(j:Nat)(b:B)(h:List (Nat×B))(i:Nat):gt ((j,b)::h) i=if j=i then some b else gt h i:=by
 simp only[gt,beq_eq];by_cases e:j=i<;>simp[e]
theorem OU(h:List (Nat×B))(i:Nat)(c:B)(j:Nat):gt (ug h i c) j=if i=j then(gt h i).map (fun _=>c)else gt h j:=by
 induction h with|nil=>simp[ug,gt]|cons x h ih=>obtain⟨k,b⟩:=x;simp only[ug,beq_eq];by_cases e:k=i;subst e;simp only[yC,zC,lG];by_cases e2:k=j<;>simp[e2];simp only[e,yB,zD,lG,ih];by_cases e2:i=j;subst e2;simp[e];by_cases e3:k=j<;>simp[e2,e3]
def B.st:B->Nat
 |.vec _ _ _ st=>st|_=>0
structure Cx where
 Y:Nat->Option Nat
 O:Sg
 s:S
def Ref(x:Cx)(k st:Nat)(p:Option Nat->Prop):Prop:=k<x.O.nx/\∀b,gt x.O.h k=some b->st<=b.st/\(st=b.st->p (x.Y k))
def IR(off n:Nat)(v:Value)(sz:Nat):Option Nat->Prop
 |none=>off=0/\n=0/\∃o,v=.slice o 0 0/\∀a,o=some a->a.spot=none|some i=>(0<off/\n=0/\∃a c,v=.slice (some a) 0 c/\a.spot=none)\/v=.slice (some ⟨i,off*sz,none⟩) n (bS+off)
mutual
def aD(x:Cx):U->Value->Prop
 |.junk,_=>True|.bool b,v=>v=.bool b
 |.int k n,v=>v=.int k n|.str l,v=>v=.string ⟨⟨l⟩⟩
 |.nilp,v=>v=.pointer none|.ptr k st off,v=>v.oneCell'=true/\Ref x k st fun o=>∃i,o=some i/\v=.pointer (some ⟨i,off,none⟩)
 |.iptr l,v=>∃i off row e,v=.pointer (some ⟨i,off,none⟩)/\lk x.s.h i=some (.inl (row,e,1))/\cD x l (row.drop off)/\okL l=true|.nils,v=>v=.slice none 0 0
 |.sl k off n c,v=>v.oneCell'=true/\Ref x k 0 fun o=>∃i,o=some i/\v=.slice (some ⟨i,off,none⟩) n c/\c<bS/\n<=c
 |.vl k st off n,v=>v.oneCell'=true/\k<x.O.nx/\∀b,gt x.O.h k=some b->st<=b.st/\(st=b.st->∃l e sz,b=.vec l e sz st/\IR off n v sz (x.Y k))|.isl t l,v=>(l=[]/\(v=.slice none 0 0\/∃r,v=.chan (some r)))\/∃i off c,v=.slice (some ⟨i,off,none⟩) l.length c/\(t=true->c=l.length/\c<bS)/\
   (l=[]\/∃row e sz,lk x.s.h i=some (.inl (row,e,1))/\gU x sz l (row.drop off)/\ ((c<bS/\l.length<=c)\/(bS<=c/\e=sz+1/\0<sz/\off=bN c*sz/\off+l.length*sz<=row.length)))
 |.nilm,v=>v=.map none|.map k,v=>v.oneCell'=true/\Ref x k 0 fun o=>∃i,o=some i/\v=.map (some i)
 |.fn f a b,v=>∃va vb,v=.func f ⟨va⟩ ⟨vb⟩/\cD x a va/\a.length=va.length/\cD x b vb/\b.length=vb.length|.nilf,v=>v=.nilFunc
 |.nili,v=>v=.nilIface|.agg l,v=>∃vs,v=.agg ⟨vs⟩/\cD x l vs/\l.length=vs.length/\okL l=true
 |.tup l,v=>∃vs,v=.tuple ⟨vs⟩/\cD x l vs/\l.length=vs.length
def cD(x:Cx):List U->List Value->Prop
 |[],_=>True|u::us,vs=>match vs with
  |[]=>False|v::vs=>aD x u v/\cD x us vs
def gU(x:Cx)(sz:Nat):List (List U)->List Value->Prop
 |[],_=>True|c::cs,vs=>c.length=sz/\okL c=true/\cD x c vs/\gU x sz cs (vs.drop sz)
end
mutual
def b7(n:Nat):U->Prop
 |.ptr k _ _=>k<n|.sl k _ _ _=>k<n
 |.vl k _ _ _=>k<n|.map k=>k<n
 |.iptr l=>aN n l|.isl _ l=>lX n l
 |.fn _ a b=>aN n a/\aN n b|.agg l=>aN n l
 |.tup l=>aN n l|_=>True
def aN(n:Nat):List U->Prop
 |[]=>True|u::us=>b7 n u/\aN n us
def lX(n:Nat):List (List U)->Prop
 |[]=>True|c::cs=>aN n c/\lX n cs
end
theorem G5(x:Cx):∀(l:List U)(vs:List Value),cD x l vs↔∀(i:Nat)(u:U),l[i]? = some u->∃v,vs[i]? = some v/\aD x u v
 |[],vs=>by simp[cD]
 |u::us,[]=>by simp only[cD,false_iff];intro h;obtain⟨v,hv,_⟩:=h 0 u rfl;simp at hv
 |u::us,v::vs=>by
  simp only[cD,G5 x us vs];constructor;rintro⟨h1,h2⟩ i w hi;cases i with
  |zero=>simp at hi;subst hi;exact⟨v,rfl,h1⟩|succ i=>simp at hi;simpa using h2 i w hi
  intro h;refine⟨?_,fun i w hi=>by simpa using h (i+1) w (by simpa using hi)⟩;obtain⟨v',h1,h2⟩:=h 0 u rfl;simp at h1;subst h1;exact h2
theorem PN(n:Nat):∀l:List U,aN n l↔∀u∈l,b7 n u
 |[]=>by simp[aN]
 |u::us=>by simp[aN,PN n us]
theorem qv6(n:Nat):∀l:List (List U),lX n l↔∀c∈l,aN n c
 |[]=>by simp[lX]
 |u::us=>by simp[lX,qv6 n us]
structure Mo(n:Nat)(x y:Cx):Prop where
 ref:∀k,k<n->k<x.O.nx->k<y.O.nx/\∀b',gt y.O.h k=some b'->∃b,gt x.O.h k=some b/\b.st<=b'.st/\(b.st=b'.st->y.Y k=x.Y k/\∀l e sz st,b=.vec l e sz st->∃l',b'=.vec l' e sz st)
 imm:∀i row e,lk x.s.h i=some (.inl (row,e,1))->lk y.s.h i=some (.inl (row,e,1))
variable{n:Nat}
variable{x:Cx}
variable{y:Cx}
theorem Mo.ref'(h:Mo n x y){k st:Nat}{p:Option Nat->Prop}(hk:k<n)(hr:Ref x k st p):Ref y k st p:=by
 obtain⟨h1,h2⟩:=hr;obtain⟨g1,g2⟩:=h.ref k hk h1;refine⟨g1,fun b' cQ=>?_⟩;obtain⟨b,e1,e2,e3⟩:=g2 b' cQ;obtain⟨e4,e5⟩:=h2 b e1;refine⟨Nat.le_trans e4 e2,fun e=>?_⟩;have:b.st=b'.st:=by omega
 rw[(e3 this).1];exact e5 (by omega)
mutual
theorem aD.mono{n:Nat}{x y:Cx}(h:Mo n x y):(u:U)->(v:Value)->b7 n u->aD x u v->aD y u v
 |.junk,v,_,_=>by simp[aD]
 |.bool b,v,_,hr=>by simpa[aD]using hr
 |.int k z,v,_,hr=>by simpa[aD]using hr
 |.str l,v,_,hr=>by simpa[aD]using hr
 |.nilp,v,_,hr=>by simpa[aD]using hr
 |.ptr k st off,v,hb,hr=>by simp only[aD]at*;exact⟨hr.1,h.ref' (by simpa[b7]using hb) hr.2⟩
 |.iptr l,v,hb,hr=>by simp only[aD]at*;obtain⟨i,off,row,e,h1,h2,h3,h4⟩:=hr;exact⟨i,off,row,e,h1,h.imm _ _ _ h2,cD.mono h l _ (by simpa[b7]using hb) h3,h4⟩
 |.nils,v,_,hr=>by simpa[aD]using hr
 |.sl k off m c,v,hb,hr=>by simp only[aD]at*;exact⟨hr.1,h.ref' (by simpa[b7]using hb) hr.2⟩
 |.vl k st off m,v,hb,hr=>by
  simp only[aD]at*;obtain⟨h0,h1,h2⟩:=hr;obtain⟨g1,g2⟩:=h.ref k (by simpa[b7]using hb) h1;refine⟨h0,g1,fun b' cQ=>?_⟩;obtain⟨b,e1,e2,e3⟩:=g2 b' cQ;obtain⟨e4,e5⟩:=h2 b e1;refine⟨Nat.le_trans e4 e2,fun e=>?_⟩;have e6:b.st=b'.st:=by omega
  obtain⟨l,e',sz,e7,e8⟩:=e5 (by omega);obtain⟨e9,e10⟩:=e3 e6;obtain⟨l',e11⟩:=e10 _ _ _ _ e7;rw[e9];exact⟨l',e',sz,e11,e8⟩
 |.isl t l,v,hb,hr=>by simp only[aD]at*;rcases hr with hr |⟨i,off,c,h1,h2,h3⟩;exact .inl hr;refine .inr ⟨i,off,c,h1,h2,?_⟩;rcases h3 with h3 |⟨row,e,sz,g1,g2,g3⟩;exact .inl h3;exact .inr ⟨row,e,sz,h.imm _ _ _ g1,gU.mono h l _ (by simpa[b7]using hb) g2,g3⟩
 |.nilm,v,_,hr=>by simpa[aD]using hr
 |.map k,v,hb,hr=>by simp only[aD]at*;exact⟨hr.1,h.ref' (by simpa[b7]using hb) hr.2⟩
 |.fn f a b,v,hb,hr=>by simp only[aD]at*;obtain⟨va,vb,h1,h2,h3,h4,h5⟩:=hr;simp only[b7]at hb;exact⟨va,vb,h1,cD.mono h a _ hb.1 h2,h3,cD.mono h b _ hb.2 h4,h5⟩
 |.nilf,v,_,hr=>by simpa[aD]using hr
 |.nili,v,_,hr=>by simpa[aD]using hr
 |.agg l,v,hb,hr=>by simp only[aD]at*;obtain⟨vs,h1,h2,h3⟩:=hr;exact⟨vs,h1,cD.mono h l _ (by simpa[b7]using hb) h2,h3⟩
 |.tup l,v,hb,hr=>by simp only[aD]at*;obtain⟨vs,h1,h2,h3⟩:=hr;exact⟨vs,h1,cD.mono h l _ (by simpa[b7]using hb) h2,h3⟩
theorem cD.mono{n:Nat}{x y:Cx}(h:Mo n x y):(l:List U)->(vs:List Value)->aN n l->cD x l vs->cD y l vs
 |[],_,_,_=>by simp[cD]
 |u::us,[],_,hr=>by simp[cD]at hr
 |u::us,v::vs,hb,hr=>by simp only[cD,aN]at*;exact⟨aD.mono h u v hb.1 hr.1,cD.mono h us vs hb.2 hr.2⟩
theorem gU.mono{n sz:Nat}{x y:Cx}(h:Mo n x y):(l:List (List U))->(vs:List Value)->lX n l->gU x sz l vs->gU y sz l vs
 |[],_,_,_=>by simp[gU]
 |c::cs,vs,hb,hr=>by simp only[gU,lX]at*;exact⟨hr.1,hr.2.1,cD.mono h c vs hb.1 hr.2.2.1,gU.mono h cs _ hb.2 hr.2.2.2⟩
end
mutual
theorem aD.bel{x:Cx}:(u:U)->(v:Value)->aD x u v->b7 x.O.nx u
 |.ptr k st off,v,hr=>by simp only[aD,b7]at*;exact hr.2.1
 |.sl k off m c,v,hr=>by simp only[aD,b7]at*;exact hr.2.1
 |.vl k st off m,v,hr=>by simp only[aD,b7]at*;exact hr.2.1
 |.map k,v,hr=>by simp only[aD,b7]at*;exact hr.2.1
 |.iptr l,v,hr=>by simp only[aD,b7]at*;obtain⟨i,off,row,e,h1,h2,h3,_⟩:=hr;exact cD.bel l _ h3
 |.isl t l,v,hr=>by simp only[aD,b7]at*;rcases hr with⟨rfl,_⟩|⟨i,off,c,h1,h2,h3⟩;simp[lX];rcases h3 with rfl |⟨row,e,sz,g1,g2,_⟩;simp[lX];exact gU.bel l _ g2
 |.fn f a b,v,hr=>by simp only[aD,b7]at*;obtain⟨va,vb,h1,h2,h3,h4,h5⟩:=hr;exact⟨cD.bel a _ h2,cD.bel b _ h4⟩
 |.agg l,v,hr=>by simp only[aD,b7]at*;obtain⟨vs,h1,h2,h3⟩:=hr;exact cD.bel l _ h2
 |.tup l,v,hr=>by simp only[aD,b7]at*;obtain⟨vs,h1,h2,h3⟩:=hr;exact cD.bel l _ h2
 |.junk,_,_=>by simp[b7]
 |.bool _,_,_=>by simp[b7]
 |.int _ _,_,_=>by simp[b7]
 |.str _,_,_=>by simp[b7]
 |.nilp,_,_=>by simp[b7]
 |.nils,_,_=>by simp[b7]
 |.nilm,_,_=>by simp[b7]
 |.nilf,_,_=>by simp[b7]
 |.nili,_,_=>by simp[b7]
theorem cD.bel{x:Cx}:(l:List U)->(vs:List Value)->cD x l vs->aN x.O.nx l
 |[],_,_=>by simp[aN]
 |u::us,[],hr=>by simp[cD]at hr
 |u::us,v::vs,hr=>by simp only[cD,aN]at*;exact⟨aD.bel u v hr.1,cD.bel us vs hr.2⟩
theorem gU.bel{x:Cx}{sz:Nat}:(l:List (List U))->(vs:List Value)->gU x sz l vs->lX x.O.nx l
 |[],_,_=>by simp[lX]
 |c::cs,vs,hr=>by simp only[gU,lX]at*;exact⟨cD.bel c vs hr.2.2.1,gU.bel cs _ hr.2.2.2⟩
end
def bB(x:Cx)(l:List U)(vs:List Value):Prop:=cD x l vs/\l.length=vs.length
variable{l:List U}
variable{vs:List Value}
variable{u:U}
theorem bB.get(h:bB x l vs){i:Nat}(hu:l[i]? = some u):∃v,vs[i]? = some v/\aD x u v:=(G5 x l vs).1 h.1 i u hu
theorem bB.mk'(hl:l.length=vs.length)(h:∀(i:Nat)(u:U),l[i]? = some u->∃v,vs[i]? = some v/\aD x u v):bB x l vs:=⟨(G5 x l vs).2 h,hl⟩
theorem bB.nil(x:Cx):bB x [] []:=⟨by simp[cD],rfl⟩
theorem bB.cons{v:Value}(h:aD x u v)(h':bB x l vs):bB x (u::l) (v::vs):=⟨by simp[cD,h,h'.1],by simp[h'.2]⟩
theorem bB.inv(h:bB x (u::l) vs):∃v tN,vs=v::tN/\aD x u v/\bB x l tN:=by
 obtain⟨h1,h2⟩:=h;rcases vs with _|⟨v,vs⟩;simp at h2;simp only[cD]at h1;exact⟨v,vs,rfl,h1.1,h1.2,by simpa using h2⟩
theorem bB.nil_inv(h:bB x [] vs):vs=[]:=by
 have:=h.2;simpa using this.symm
theorem bB.append{a b:List U}{va vb:List Value}(h:bB x a va)(h':bB x b vb):bB x (a++b) (va++vb):=by
 induction a generalizing va with|nil=>rw[h.nil_inv];exact h'|cons u a ih=>obtain⟨v,vs,rfl,h1,h2⟩:=h.inv;exact bB.cons h1 (ih h2)
theorem bB.drop{x:Cx}{a:List U}{va:List Value}(h:bB x a va)(n:Nat):bB x (a.drop n) (va.drop n):=by
 refine bB.mk' (by simp[h.2]) fun i u hu=>?_;rw[List.getElem?_drop]at hu ⊢;exact h.get hu
theorem bB.take{x:Cx}{a:List U}{va:List Value}(h:bB x a va)(n:Nat):bB x (a.take n) (va.take n):=by
 refine bB.mk' (by simp[h.2]) fun i u hu=>?_;rw[List.getElem?_take]at hu ⊢;split at hu;rename_i aG;simp only[aG,if_true];exact h.get hu;cases hu
theorem bB.set{x:Cx}{a:List U}{va:List Value}(h:bB x a va)(n:Nat){u:U}{v:Value}(hu:aD x u v):bB x (a.set n u) (va.set n v):=by
 refine bB.mk' (by simp[h.2]) fun i w hw=>?_;rw[List.getElem?_set]at hw ⊢;split at hw;split at hw;cases hw;rename_i h1 h2;subst h1;rw[h.2]at h2;simp[h2,hu];cases hw;rename_i cW;simp only[cW,if_false];exact h.get hw
theorem bB.mono{n:Nat}{x y:Cx}(h:Mo n x y){l:List U}{vs:List Value}(hb:aN n l)(hr:bB x l vs):bB y l vs:=⟨cD.mono h l vs hb hr.1,hr.2⟩
theorem cD.takeE(h:cD x l vs):bB x l (vs.take l.length):=by
 refine bB.mk' ?_ fun i u hu=>?_;rcases Nat.lt_or_ge vs.length l.length with aG |HD
 have hu:l[vs.length]? = some l[vs.length]:=by simp[aG]
 obtain⟨v,hv,_⟩:=(G5 x l vs).1 h _ _ hu;simp at hv;simp;omega;obtain⟨v,hv,hr⟩:=(G5 x l vs).1 h i u hu;have:i<l.length:=(zG.1 hu).1;exact⟨v,by rw[List.getElem?_take];simp[this,hv],hr⟩
theorem cD.len(h:cD x l vs):l.length<=vs.length:=by
 have:=h.takeE.2;rw[List.length_take]at this;omega
theorem cD.drop{x:Cx}{l:List U}{vs:List Value}(h:cD x l vs)(n:Nat):cD x (l.drop n) (vs.drop n):=by
 rw[G5]at*;intro i u hu;rw[List.getElem?_drop]at hu ⊢;exact h _ _ hu
def rZ(x:Cx)(es:List ME)(vs:List MapEntry):Prop:=es.length=vs.length/\∀(i:Nat)(e:ME),es[i]? = some e->∃v:MapEntry,vs[i]? = some v/\aD x e.key v.key/\aD x e.val v.val/\v.born=e.born
def nI(x:Cx)(k:Nat):B->Prop
 |.row l e=>okL l=true/\∃i l',x.Y k=some i/\lk x.s.h i=some (.inl (l',e,0))/\bB x l l'|.vec l e sz _=>okL l=true/\0<sz/\(l=[]/\x.Y k=none\/∃i l',x.Y k=some i/\lk x.s.h i=some (.inl (l',e,sz+2))/\bB x l l')
 |.map es cl=>∃i es',x.Y k=some i/\lk x.s.h i=some (.inr (es',cl))/\rZ x es es'
structure jZ(x:Cx):Prop where
 ok:∀k b,gt x.O.h k=some b->k<x.O.nx/\nI x k b
 inj:∀k k' b b' i,gt x.O.h k=some b->gt x.O.h k'=some b'->x.Y k=some i->x.Y k'=some i->k=k'
 bd:∀i b,lk x.s.h i=some b->i<x.s.nx
def Fr(F:Nat->lB->Prop)(x:Cx):Prop:=∀i b,F i b->lk x.s.h i=some b/\∀k c,gt x.O.h k=some c->x.Y k≠some i
def Ke(n:Nat)(x y:Cx):Prop:=∀u v,b7 n u->aD x u v->aD y u v
theorem Ke.refl(n:Nat)(x:Cx):Ke n x x:=fun _ _ _ h=>h
theorem Ke.trans{z:Cx}(h:Ke n x y)(h':Ke n y z):Ke n x z:=fun u v hb hr=>h' u v hb (h u v hb hr)
mutual
theorem b7.le{n k:Nat}(h:n<=k):(u:U)->b7 n u->b7 k u
 |.ptr a _ _,hb=>by simp only[b7]at*;omega
 |.sl a _ _ _,hb=>by simp only[b7]at*;omega
 |.vl a _ _ _,hb=>by simp only[b7]at*;omega
 |.map a,hb=>by simp only[b7]at*;omega
 |.iptr l,hb=>by simp only[b7]at*;exact aN.le h l hb
 |.isl t l,hb=>by simp only[b7]at*;exact lX.le h l hb
 |.fn f a b,hb=>by simp only[b7]at*;exact⟨aN.le h a hb.1,aN.le h b hb.2⟩
 |.agg l,hb=>by simp only[b7]at*;exact aN.le h l hb
 |.tup l,hb=>by simp only[b7]at*;exact aN.le h l hb
 |.junk,_=>by simp[b7]
 |.bool _,_=>by simp[b7]
 |.int _ _,_=>by simp[b7]
 |.str _,_=>by simp[b7]
 |.nilp,_=>by simp[b7]
 |.nils,_=>by simp[b7]
 |.nilm,_=>by simp[b7]
 |.nilf,_=>by simp[b7]
 |.nili,_=>by simp[b7]
theorem aN.le{n k:Nat}(h:n<=k):(l:List U)->aN n l->aN k l
 |[],_=>by simp[aN]
 |u::us,hb=>by simp only[aN]at*;exact⟨b7.le h u hb.1,aN.le h us hb.2⟩
theorem lX.le{n k:Nat}(h:n<=k):(l:List (List U))->lX n l->lX k l
 |[],_=>by simp[lX]
 |u::us,hb=>by simp only[lX]at*;exact⟨aN.le h u hb.1,lX.le h us hb.2⟩
end
theorem Ke.le{n k:Nat}{x y:Cx}(h:Ke k x y)(hk:n<=k):Ke n x y:=fun u v hb hr=>h u v (b7.le hk u hb) hr
theorem Mo.ke(h:Mo n x y):Ke n x y:=fun u v hb hr=>aD.mono h u v hb hr
theorem Ke.E(h:Ke n x y)(hb:aN n l)(hr:bB x l vs):bB y l vs :=
 bB.mk' hr.2 fun i u hu=>by obtain⟨v,h1,h2⟩:=hr.get hu;exact⟨v,h1,h u v ((PN n l).1 hb u (zX hu)) h2⟩
theorem bB.bel{x:Cx}{l:List U}{vs:List Value}(hr:bB x l vs):aN x.O.nx l:=cD.bel l vs hr.1
mutual
def toV:U->Option Value
 |.bool b=>some (.bool b)|.int k n=>some (.int k n)
 |.str s=>some (.string ⟨⟨s⟩⟩)|.nilp=>some (.pointer none)
 |.nils=>some (.slice none 0 0)|.nilm=>some (.map none)
 |.nilf=>some .nilFunc|.nili=>some .nilIface
 |.agg l=>cond (okL l) (match eL l with
  |some vs=>some (.agg ⟨vs⟩)|none=>none) none
 |_=>none
def eL:List U->Option (List Value)
 |[]=>some []|u::l=>match toV u with
  |some v=>(match eL l with
   |some vs=>some (v::vs)|none=>none)
  |none=>none
end
mutual
def iH:Value->Option U
 |.bool b=>some (.bool b)|.int k n=>some (.int k n)
 |.string s=>some (.str s.data.toList)|.pointer none=>some .nilp
 |.slice none n c=>match n,c with
  |0,0=>some .nils|_,_=>none
 |.map none=>some .nilm|.nilFunc=>some .nilf
 |.nilIface=>some .nili|.agg ⟨l⟩=>match pH l with
  |some us=>cond (okL us) (some (.agg us)) none|none=>none
 |_=>none
def pH:List Value->Option (List U)
 |[]=>some []|v::l=>match iH v with
  |some u=>(match pH l with
   |some us=>some (u::us)|none=>none)
  |none=>none
end
def vJ:U->Option (List U)
 |.junk=>none|.tup _=>none
 |.agg l=>some l|u=>some [u]
def c6(tm:List U):Operand->Option U
 |.tmp t=>nth tm t|.const v=>iH v
 |.func f=>some (.fn (.func f) [] [])|.global _=>none
def lZ(tm:List U):List Operand->Option (List U)
 |[]=>some []|x::l=>match c6 tm x with
  |some v=>(match lZ tm l with
   |some r=>some (v::r)|none=>none)
  |none=>none
def xR(tm:List U):List (Nat×Operand)->Option (List (Nat×U))
 |[]=>some []|(i,x)::l=>match c6 tm x with
  |some v=>(match xR tm l with
   |some r=>some ((i,v)::r)|none=>none)
  |none=>none
def vI(tm:List U):Option Operand->Option (Option Value)
 |none=>some none|some x=>match c6 tm x with
  |some (.int k n)=>some (some (.int k n))|_=>none
def c7(O:Sg)(k st:Nat):Bool:=match gt O.h k with
 |some b=>Nat.beq b.st st|none=>false
def cellsOf(O:Sg)(k st:Nat):Option (List U):=match gt O.h k with
 |some (.row l _)=>cond (Nat.beq 0 st) (some l) none|some (.vec l _ _ cT)=>cond (Nat.beq cT st) (some l) none
 |_=>none
def rowOf(O:Sg)(k:Nat):Option (List U):=match gt O.h k with
 |some (.row l _)=>some l|_=>none
def xJ(O:Sg)(k st:Nat):Option (List U×TypeId×Nat):=match gt O.h k with
 |some (.vec l e sz cT)=>cond (Nat.beq cT st) (some (l,e,sz)) none|_=>none
def JA(O:Sg)(k:Nat)(l:List U):Option Sg:=match gt O.h k with
 |some (.row _ e)=>some ⟨ug O.h k (.row l e),O.nx⟩|some (.vec _ e sz st)=>some ⟨ug O.h k (.vec l e sz st),O.nx⟩
 |_=>none
def jX(l:List U)(off n:Nat):Option (List U):=if off+n<=l.length then some ((l.drop off).take n)else none
def oM(l:List U)(off:Nat)(vs:List U):Option (List U):=if off+vs.length<=l.length then some (l.take off++(vs++l.drop (off+vs.length)))else none
def Uw(T:Tb)(t:TypeId)(cs:List U)(off:Nat):Option U :=
 match T.und t with
 |none=>none|some d=>cond (qA d) (match cC T t with
   |some n=>some (.agg ((cs.drop off).take n))|none=>none) (nth cs off)
def tV(place:Nat->Option (Nat×Nat))(cells:List U):List (Nat×U)->Option (List U)
 |[]=>some cells|(i,v)::rest=>match place i with
  |none=>none|some (off,size)=>match vJ v with
   |none=>none|some cs=>cond (Nat.beq cs.length size) (match oM cells off cs with
    |some c=>tV place c rest|none=>none) none
def Bt(T:Tb)(t:TypeId)(ps:List (Nat×U)):Option U :=
 match T.inf t with
 |none=>none|some (_,_,z)=>match pH z.cells.toList with
  |none=>none|some zu=>match T.und t with
   |some (.struct fs)=>cond (G1 T fs.toList) (match tV (JE T fs.toList) zu ps with
    |some cs=>cond (okL cs) (some (.agg cs)) none|none=>none) none
   |some (.array _ e)=>(match cC T e with
    |none=>none|some n=>match tV (fun i=>some (i*n,n)) zu ps with
     |some cs=>cond (okL cs) (some (.agg cs)) none|none=>none)
   |_=>none
def g1(f:Value->Option Value)(u:U):Option U:=match toV u with
 |some v=>(match f v with
  |some r=>iH r|none=>none)
 |none=>none
def g2(f:Value->Value->Option Value)(a b:U):Option U:=match toV a with
 |some x=>(match toV b with
  |some y=>(match f x y with
   |some r=>iH r|none=>none)
  |none=>none)
 |none=>none
def gK(O:Sg):U->Nat
 |.ptr k st _=>cond (c7 O k st) 1 0|.iptr _=>1
 |.sl k _ _ _=>cond (c7 O k 0) 2 0|.vl k st _ (_+1)=>cond (c7 O k st) 2 0
 |.isl _ (_::_)=>2|.map k=>cond (c7 O k 0) 3 0
 |_=>0
def JD:U->Nat
 |.nilp=>1|.nils=>2
 |.nilm=>3|_=>0
def xM(T:Tb)(t:TypeId):Nat:=match T.und t with
 |some (.pointer _)=>1|some (.slice _)=>2
 |some (.map _ _)=>3|_=>0
def DN:BinOp->Option U
 |.eql=>some (.bool false)|.neq=>some (.bool true)
 |_=>none
def Bp(T:Tb)(O:Sg)(op:BinOp)(t:TypeId)(x y:U):Option U :=
 cond (Nat.beq (xM T t) 0) none (cond (cond (Nat.beq (gK O x) (xM T t)) (Nat.beq (JD y) (xM T t)) (cond (Nat.beq (JD x) (xM T t)) (Nat.beq (gK O y) (xM T t)) false)) (DN op) none)
def IA(T:Tb)(O:Sg)(op:BinOp)(t:TypeId)(x y:U):Option U:=match g2 (sS T op t) x y with
 |some r=>some r|none=>Bp T O op t x y
def Kc(T:Tb)(O:Sg)(st:TypeId)(x:U)(f:Nat):Option U :=
 match T.und st with
 |some (.struct fs)=>match nth fs.toList f with
  |some fd=>(match cC T fd.type with
   |some (_+1)=>match x with
    |.ptr k s off=>cond (c7 O k s) (some (.ptr k s (off+fd.offset))) none|.iptr l=>some (.iptr (l.drop fd.offset))
    |_=>none
   |_=>none)
  |none=>none
 |_=>none
def ll(T:Tb)(st:TypeId)(x:U)(f:Nat):Option U :=
 match T.und st with
 |some (.struct fs)=>match nth fs.toList f with
  |some fd=>(match x with
   |.agg cs=>Uw T fd.type cs fd.offset|_=>none)
  |none=>none
 |_=>none
def EM(T:Tb)(O:Sg)(t:TypeId)(x ix:U):Option U :=
 match ix with
 |.int _ i=>match T.und t with
  |some (.slice e)=>(match cC T e with
   |some sz=>match x with
    |.sl k off n _=>cond (c7 O k 0) (if 0<=i/\i<n then some (.ptr k 0 (off+i.toNat*sz))else none) none|.vl k st off n=>(match xJ O k st with
     |some (l,_,hZ)=>cond (Nat.beq hZ sz) (if 0<=i/\i<n/\l≠[]then some (.ptr k st (off*sz+i.toNat*sz))else none) none|none=>none)
    |.isl _ l=>if 0<=i/\i<l.length then(match l[i.toNat]? with
     |some c=>cond (Nat.beq c.length sz) (some (.iptr c)) none|none=>none)else none
    |_=>none
   |none=>none)
  |some (.array n e)=>(match cC T e with
   |some sz=>match x with
    |.ptr k st off=>cond (c7 O k st) (if 0<=i/\i<n then some (.ptr k st (off+i.toNat*sz))else none) none|.iptr l=>if 0<=i/\i<n then some (.iptr (l.drop (i.toNat*sz)))else none
    |_=>none
   |none=>none)
  |_=>none
 |_=>none
def Vz(T:Tb)(t:TypeId)(x ix:U):Option U :=
 match x with
 |.agg cs=>(match ix with
  |.int _ i=>match T.und t with
   |some (.array n e)=>(if 0<=i/\i<n then(match cC T e with
    |some sz=>Uw T e cs (i.toNat*sz)|none=>none)else none)
   |_=>none
  |_=>none)
 |_=>g2 (UV T t) x ix
def Xh(x:U)(i:Nat):Option U:=match x with
 |.tup vs=>nth vs i|_=>none
def lenU(T:Tb)(O:Sg)(t:TypeId)(x:U):Option U:=match T.und t with
 |some (.slice _)=>(match x with
  |.nils=>some (.int .i64 0)|.sl k _ n _=>cond (c7 O k 0) (some (.int .i64 n)) none
  |.vl k st _ n=>cond (c7 O k st) (some (.int .i64 n)) none|.isl _ l=>some (.int .i64 l.length)
  |_=>none)
 |some .string=>(match x with
  |.str s=>some (.int .i64 s.length)|_=>none)
 |some (.array n _)=>(match x with
  |.junk=>none|_=>some (.int .i64 n))
 |some (.map _ _)=>(match x with
  |.nilm=>some (.int .i64 0)|.map k=>(match gt O.h k with
   |some (.map es _)=>some (.int .i64 es.length)|_=>none)
  |_=>none)
 |_=>none
def ZY(T:Tb)(O:Sg)(t:TypeId)(x:U):Option U:=match T.und t with
 |some (.slice _)=>(match x with
  |.nils=>some (.int .i64 0)|.sl k _ _ c=>cond (c7 O k 0) (some (.int .i64 c)) none
  |_=>none)
 |_=>none
def oO{X:Type}(l:List X)(lo hi:Nat):List X:=(l.take hi).drop lo
def OX(T:Tb)(O:Sg)(t:TypeId)(x:U)(lo hi mx:Option Value):Option U :=
 match T.und t with
 |some .string=>(match x with
  |.str s=>(match mx with
   |some _=>none|none=>match g9 s.length s.length lo hi none with
    |some (l,h,_)=>some (.str (oO s l h))|none=>none)
  |_=>none)
 |some (.slice e)=>(match cC T e with
  |some sz=>match x with
   |.nils=>(match g9 0 0 lo hi mx with
    |some _=>some .nils|none=>none)
   |.sl k off n c=>cond (c7 O k 0) (match g9 n c lo hi mx with
    |some (l,h,m)=>some (.sl k (cond (Nat.beq m l) off (off+l*sz)) (h-l) (m-l))|none=>none) none
   |.vl k st off n=>(match xJ O k st with
    |some (r,_,hZ)=>cond (Nat.beq hZ sz) (match mx with
     |some _=>none|none=>match g9 n n lo hi none with
      |some (l,h,_)=>if(off+n)*sz<=r.length then some (.vl k st (off+l) (h-l))else none|none=>none) none
    |none=>none)
   |.isl t l=>if(l.all fun c=>Nat.beq c.length sz)=true then(match g9 l.length l.length lo hi mx with
    |some (a,h,m)=>(match mx with
      |some _=>if m<bS then some (.isl (Nat.beq m h) (oO l a h))else none|none=>some (.isl (cond t (Nat.beq h l.length) false) (oO l a h)))
    |none=>none)else none
   |_=>none
  |none=>none)
 |_=>none
def i8(T:Tb)(O:Sg)(tm:List U)(op:Op):Option U :=
 match op with
 |.move x=>c6 tm x|.assign x=>c6 tm x
 |.pick c a b=>(match c6 tm c with
  |some (.bool true)=>c6 tm a|some (.bool false)=>c6 tm b
  |_=>none)
 |.build t ps=>(match xR tm ps.toList with
  |some qs=>Bt T t qs|none=>none)
 |.nilCheck x=>(match c6 tm x with
  |some (.ptr k st off)=>cond (c7 O k st) (some (.ptr k st off)) none|some (.iptr l)=>some (.iptr l)
  |some (.fn (.func f) a b)=>some (.fn (.func f) a b)|_=>none)
 |.binOp op t x y _=>(match c6 tm x,c6 tm y with
  |some a,some b=>IA T O op t a b|_,_=>none)
 |.unOp op _ x=>(match c6 tm x with
  |some a=>g1 (OD op) a|none=>none)
 |.convert s d x=>(match c6 tm x with
  |some a=>g1 (convX T s d) a|none=>none)
 |.makeFunc fn first cap=>(match lZ tm first.toList,lZ tm cap.toList with
  |some a,some b=>some (.fn fn a b)|_,_=>none)
 |.slice t x lo hi mx=>(match c6 tm x,vI tm lo,vI tm hi,vI tm mx with
  |some a,some l,some h,some m=>OX T O t a l h m|_,_,_,_=>none)
 |.fieldAddr t x f=>(match c6 tm x with
  |some a=>Kc T O t a f|none=>none)
 |.field t x f=>(match c6 tm x with
  |some a=>ll T t a f|none=>none)
 |.indexAddr t x i=>(match c6 tm x,c6 tm i with
  |some a,some b=>EM T O t a b|_,_=>none)
 |.index t x i=>(match c6 tm x,c6 tm i with
  |some a,some b=>Vz T t a b|_,_=>none)
 |.extract x i=>(match c6 tm x with
  |some a=>Xh a i|none=>none)
 |.call c=>(match c.callee with
  |.builtin .len=>(match lZ tm c.args.toList,c.argTypes.toList with
   |some [x],t::_=>lenU T O t x|_,_=>none)
  |.builtin .cap=>(match lZ tm c.args.toList,c.argTypes.toList with
   |some [x],t::_=>ZY T O t x|_,_=>none)
  |.builtin .max=>(match lZ tm c.args.toList with
   |some (x::l)=>(match toV x,eL l with
    |some a,some b=>(match xN UN a b with
     |some r=>iH r|none=>none)
    |_,_=>none)
   |_=>none)
  |.builtin .min=>(match lZ tm c.args.toList with
   |some (x::l)=>(match toV x,eL l with
    |some a,some b=>(match xN OT a b with
     |some r=>iH r|none=>none)
    |_,_=>none)
   |_=>none)
  |_=>none)
 |_=>none
def yN(T:Tb)(kt:TypeId)(k:Value):List ME->Nat->Option (Option (Nat×U))
 |[],_=>some none|e::es,i=>match toV e.key with
  |none=>none|some k'=>match eqv T 50 kt k k' with
   |some true=>some (some (i,e.val))|some false=>yN T kt k es (i+1)
   |none=>none
def EB(T:Tb)(t:TypeId)(l:List U)(off:Nat):Option U:=match T.und t with
 |none=>none|some d=>cond (qA d) (match cC T t with
   |some n=>(match jX l off n with
    |some cs=>some (.agg cs)|none=>none)
   |none=>none) (nth l off)
def pL(T:Tb)(O:Sg)(tm:List U)(op:Op):Option U :=
 match op with
 |.load t x=>(match c6 tm x with
  |some (.ptr k st off)=>(match cellsOf O k st with
   |some l=>EB T t l off|none=>none)
  |some (.iptr l)=>EB T t l 0|_=>none)
 |.lookup t x k ok=>(match T.und t,c6 tm x,c6 tm k with
  |some (.map kt et),some m,some ku=>(match toV ku with
   |none=>none|some kv=>cond (o6 T 50 kt kv)
    (match (match m with
      |.nilm=>some []|.map r=>(match gt O.h r with
       |some (.map es _)=>some es|_=>none)
      |_=>none)with
     |none=>none|some es=>match yN T kt kv es 0 with
      |none=>none|some (some (_,v))=>some (cond ok (.tup [v,.bool true]) v)
      |some none=>match T.inf et with
       |some (_,_,z)=>(match iH z with
        |some zu=>some (cond ok (.tup [zu,.bool false]) zu)|none=>none)
       |none=>none) none)
  |_,_,_=>none)
 |_=>none
def Gi:U->U
 |.nils=>.isl false []|.isl _ l=>.isl false l
 |u=>u
def pU:List U->List U
 |[]=>[]|u::l=>Gi u::pU l
def newU(O:Sg)(b:B):Sg:=⟨(O.nx,b)::O.h,O.nx+1⟩
def uI(O:Sg)(sz:Nat)(x:U):Option (Nat×List U):=match x with
 |.nils=>some (0,[])|.isl _ l=>if(l.all fun c=>Nat.beq c.length sz)=true then some (l.length,l.flatten)else none
 |.sl k off n _=>(match rowOf O k with
  |some l=>(match jX l off (n*sz)with
   |some cs=>some (n,pU cs)|none=>none)
  |none=>none)
 |.vl k st off n=>(match xJ O k st with
  |some (l,_,hZ)=>cond (Nat.beq hZ sz) (match jX l (off*sz) (n*sz)with
   |some cs=>some (n,cs)|none=>none) none
  |none=>none)
 |_=>none
def JG(T:Tb)(O:Sg)(t xt:TypeId)(s x:U):Option (U×Sg):=
 match T.und t,T.und xt with
 |some (.slice e),some (.slice _)=>(match T.inf e with
  |some (sz+1,by_,z)=>cond (Nat.beq z.cells.toList.length (sz+1)) (match uI O (sz+1) x with
   |none=>none|some (k,new)=>match s with
    |.nils=>if k*by_<=140737488355328/\k<=140737488355328 then some (.vl O.nx 0 0 k,newU O (.vec new e (sz+1) 0))else none|.isl true l=>if(l.length+k)*by_<=140737488355328/\l.length+k<=140737488355328/\0<k/\(l.all fun c=>Nat.beq c.length (sz+1))=true then some (.vl O.nx 0 0 (l.length+k),newU O (.vec (l.flatten++new) e (sz+1) 0))else none
    |.sl a off n c=>(match rowOf O a with
     |none=>none|some l=>match jX l off (n*(sz+1))with
      |none=>none|some old=>if n=0/\c=0 then(if k*by_<=140737488355328/\k<=140737488355328 then some (.vl O.nx 0 0 k,newU O (.vec new e (sz+1) 0))else none)
       else if c<n+k then(if(n+k)*by_<=140737488355328/\n+k<=140737488355328/\0<k then some (.vl O.nx 0 0 (n+k),newU O (.vec (pU old++new) e (sz+1) 0))else none)else none)
    |.vl a st off n=>(match gt O.h a with
     |some (.vec l e' hZ cT)=>cond (Nat.beq cT st) (cond (Nat.beq e' e) (cond (Nat.beq hZ (sz+1)) (match jX l (off*(sz+1)) (n*(sz+1))with
      |none=>none|some p=>if(n+k)*by_<=140737488355328/\n+k<=140737488355328/\(0<k/\(off=0\/0<n)\/off=0/\n*(sz+1)=l.length)then some (.vl a (st+1) 0 (n+k),⟨ug O.h a (.vec (p++new) e (sz+1) (st+1)),O.nx⟩)else none) none) none) none
     |_=>none)
    |_=>none) none
  |_=>none)
 |_,_=>none
def sn(T:Tb)(O:Sg)(t xt:TypeId)(s x:U):Option (U×Sg):=
 match T.und t,T.und xt,s,x with
 |some (.slice e),some (.int _),.nils,.int _ i=>(match T.inf e with
  |some (sz+1,by_,z)=>(match pH z.cells.toList with
   |some zu=>if 0<i/\i.toNat*by_<=140737488355328/\i.toNat<=140737488355328/\z.cells.toList.length=sz+1/\okL zu=true then
     some (.vl O.nx 0 0 i.toNat,newU O (.vec (pU (List.replicate i.toNat zu).flatten) e (sz+1) 0))else none
   |none=>none)
  |_=>none)
 |_,_,_,_=>none
def Xk(T:Tb)(O:Sg)(t xt:TypeId)(s x:U):Option (U×Sg):=match JG T O t xt s x with
 |some r=>some r|none=>sn T O t xt s x
def vj(T:Tb)(O:Sg)(t:TypeId)(d x:U):Option (U×Sg):=
 match T.und t with
 |some (.slice e)=>(match cC T e with
  |none=>none|some sz=>match uI O sz x with
   |none=>none|some (k,cs)=>match d with
    |.sl a off n _=>(match rowOf O a with
     |some l=>if n=0\/k=0\/sz=0 then none else(match oM l off (cs.take (Nat.min k n*sz))with
      |some l'=>(match JA O a l' with
       |some O'=>some (.int .i64 (Nat.min k n),O')|none=>none)
      |none=>none)
     |none=>none)
    |_=>none)
 |_=>none
def DX(O:Sg)(k:Nat)(cs:List U):List U:=match gt O.h k with
 |some (.vec _ _ _ _)=>pU cs|_=>cs
def US(T:Tb)(O:Sg)(t:TypeId)(p u:U):Option (U×Sg):=
 match p with
 |.ptr k st off=>(match cC T t with
  |none=>none|some n=>match vJ u with
   |none=>none|some cs=>cond (Nat.beq cs.length n) (cond (okL cs) (match cellsOf O k st with
    |some l=>(match oM l off (DX O k cs)with
     |some l'=>(match JA O k l' with
      |some O'=>some (.junk,O')|none=>none)
     |none=>none)
    |none=>none) none) none)
 |_=>none
def uK(z:List U)(n:Nat):List U:=(List.replicate n z).flatten
def Gd(T:Tb)(O:Sg)(t:TypeId)(l c:U):Option (U×Sg):=
 match T.und t,l,c with
 |some (.slice e),.int _ a,.int _ b=>(match T.inf e with
  |some (sz,by_,z)=>(match pH z.cells.toList with
   |some zu=>cond (okL zu) (cond (Nat.beq z.cells.toList.length sz) (if 0<=a/\a<=b/\by_*b.toNat<=281474976710656/\b<=281474976710656 then
     some (.sl O.nx 0 a.toNat b.toNat,newU O (.row (uK (pU zu) b.toNat) e))else none) none) none
   |none=>none)
  |none=>none)
 |_,_,_=>none
def lw(T:Tb)(O:Sg)(t:TypeId)(x:U):Option (U×Sg):=
 match T.und t with
 |some (.slice e)=>(match T.inf e with
  |some (sz,_,z)=>(match pH z.cells.toList with
   |some zu=>cond (okL zu) (cond (Nat.beq z.cells.toList.length sz) (match x with
    |.vl k st off n=>(match xJ O k st with
     |some (l,e',hZ)=>cond (Nat.beq hZ sz) (if n=0 then some (.junk,O)else(match oM l (off*sz) (uK (pU zu) n)with
      |some l'=>some (.junk,⟨ug O.h k (.vec l' e' hZ st),O.nx⟩)|none=>none)) none
     |none=>none)
    |.nils=>some (.junk,O)|_=>none) none) none
   |none=>none)
  |none=>none)
 |_=>none
def Kk(T:Tb)(O:Sg)(t:TypeId)(n:Nat)(ps:List (Nat×U)):Option (U×Sg):=
 match T.und t with
 |some (.slice e)=>(match T.inf e with
  |some (sz,_,z)=>cond (Nat.ble (n*sz) 16777216) (cond (Nat.ble n 16777216) (cond (Nat.beq z.cells.toList.length sz) (match pH z.cells.toList with
   |none=>none|some zu=>match tV (fun i=>some (i*sz,sz)) (uK zu n) ps with
    |some cs=>cond (okL cs) (some (.sl O.nx 0 n n,newU O (.row cs e))) none|none=>none) none) none) none
  |none=>none)
 |_=>none
def FD(es:List ME)(i:Nat)(f:ME->ME):List ME:=match es,i with
 |[],_=>[]|e::es,0=>f e::es
 |e::es,i+1=>e::FD es i f
def Ig(b:Int):List ME->Nat->Option Nat
 |[],_=>none|e::es,i=>cond (decide ((e.born:Int)=b)) (some i) (Ig b es (i+1))
def Br(es:List ME)(i:Nat):List ME:=match es,i with
 |[],_=>[]|_::es,0=>es
 |e::es,i+1=>e::Br es i
def LF(O:Sg)(r:Nat)(es:List ME)(cl:Nat):Sg:=⟨ug O.h r (.map es cl),O.nx⟩
def Ip(T:Tb)(O:Sg)(t:TypeId)(m k v:U):Option (U×Sg):=
 match T.und t,m with
 |some (.map kt _),.map r=>(match toV k with
  |none=>none|some kv=>cond (o6 T 50 kt kv) (cond (plain kv) (match gt O.h r with
   |some (.map es cl)=>(match yN T kt kv es 0 with
    |none=>none|some none=>some (.junk,LF O r (es++[{ key:=k,val:=v,born:=cl }]) (cl+1))
    |some (some (i,_))=>match nth es i with
     |none=>none|some e=>match toV e.key with
      |none=>none|some kv'=>cond (xF 50 kv' kv) (some (.junk,LF O r (FD es i fun e=>{ e with val:=v }) cl)) none)
   |_=>none) none) none)
 |_,_=>none
def mp(T:Tb)(O:Sg)(t:TypeId)(m k:U):Option (U×Sg):=
 match T.und t,m with
 |some (.map kt et),.map r=>(match toV k with
  |none=>none|some kv=>cond (o6 T 50 kt kv) (cond (plain kv) (match gt O.h r with
   |some (.map es cl)=>(match yN T kt kv es 0 with
    |none=>none|some none=>(match T.inf et with
     |none=>none|some (_,_,z)=>match iH z with
      |none=>none|some zu=>some (.tup [zu,.int .i64 cl],LF O r (es++[{ key:=k,val:=zu,born:=cl }]) (cl+1)))
    |some (some (i,v))=>match nth es i with
     |none=>none|some e=>match toV e.key with
      |none=>none|some kv'=>cond (xF 50 kv' kv) (some (.tup [v,.int .i64 e.born],LF O r es cl)) none)
   |_=>none) none) none)
 |_,_=>none
def lu(O:Sg)(m st v:U):Option (U×Sg):=
 match m,st with
 |.map r,.int _ b=>(match gt O.h r with
  |some (.map es cl)=>(match Ig b es 0 with
   |none=>none|some i=>some (.junk,LF O r (FD es i fun e=>{ e with val:=v }) cl))
  |_=>none)
 |_,_=>none
def ZP(T:Tb)(O:Sg)(t:TypeId)(m k:U):Option (U×Sg):=
 match T.und t,m with
 |some (.map kt _),.map r=>(match toV k with
  |none=>none|some kv=>cond (o6 T 50 kt kv) (match gt O.h r with
   |some (.map es cl)=>(match yN T kt kv es 0 with
    |none=>none|some none=>some (.junk,LF O r es cl)
    |some (some (i,_))=>some (.junk,LF O r (Br es i) cl))
   |_=>none) none)
 |_,_=>none
def nO(T:Tb)(O:Sg)(tm:List U)(op:Op):Option (U×Sg):=
 match op with
 |.alloc e=>(match T.inf e with
  |some (_,_,z)=>(match pH z.cells.toList with
   |some zu=>cond (okL zu) (some (.ptr O.nx 0 0,newU O (.row zu e))) none|none=>none)
  |none=>none)
 |.box e x=>(match c6 tm x with
  |some u=>(match vJ u with
   |some cs=>cond (okL cs) (some (.ptr O.nx 0 0,newU O (.row cs e))) none|none=>none)
  |none=>none)
 |.store t a x=>(match c6 tm a,c6 tm x with
  |some p,some v=>US T O t p v|_,_=>none)
 |.buildSlice t n ps=>(match xR tm ps.toList with
  |some qs=>Kk T O t n qs|none=>none)
 |.makeSlice t l c=>(match c6 tm l,c6 tm c with
  |some a,some b=>Gd T O t a b|_,_=>none)
 |.makeMap _ none=>some (.map O.nx,newU O (.map [] 0))|.mapUpdate t m k x=>(match c6 tm m,c6 tm k,c6 tm x with
  |some a,some b,some v=>Ip T O t a b v|_,_,_=>none)
 |.insert t m k x=>(match c6 tm m,c6 tm k,c6 tm x with
  |some a,some b,some v=>Ip T O t a b v|_,_,_=>none)
 |.mapEntry t m k=>(match c6 tm m,c6 tm k with
  |some a,some b=>mp T O t a b|_,_=>none)
 |.entryStore _ m st x=>(match c6 tm m,c6 tm st,c6 tm x with
  |some a,some b,some v=>lu O a b v|_,_,_=>none)
 |.call c=>(match c.callee with
  |.builtin .append=>(match lZ tm c.args.toList,c.argTypes.toList with
   |some [a,b],[t,xt]=>Xk T O t xt a b|_,_=>none)
  |.builtin .copy=>(match lZ tm c.args.toList,c.argTypes.toList with
   |some [a,b],t::_=>vj T O t a b|_,_=>none)
  |.builtin .delete=>(match lZ tm c.args.toList,c.argTypes.toList with
   |some [a,b],t::_=>ZP T O t a b|_,_=>none)
  |.builtin .clear=>(match lZ tm c.args.toList,c.argTypes.toList with
   |some [a],t::_=>lw T O t a|_,_=>none)
  |_=>none)
 |_=>none
def bO(T:Tb)(O:Sg)(tm:List U)(op:Op):Option (U×Sg):=
 match i8 T O tm op with
 |some v=>some (v,O)|none=>match pL T O tm op with
  |some v=>some (v,O)|none=>nO T O tm op
def jL(T:Tb)(tm:List U)(op:Op):Option (FuncId×List U):=
 match op with
 |.call c=>(match c.callee with
  |.value f=>(match c6 tm f with
   |some (.fn (.func g) first cap)=>(match T.fn g with
    |some fn=>cond fn.body.isSome (match lZ tm c.args.toList with
     |some args=>some (g,first++args++cap)|none=>none) none
    |none=>none)
   |_=>none)
  |_=>none)
 |_=>none
end Go.Vx
namespace Go.Vx
open Go Go.Rx
mutual
theorem xT:(u:U)->(v:Value)->toV u=some v->∀(x:Cx)(v':Value),aD x u v'↔v'=v
 |.bool b,v,h,x,v'=>by simp only[toV,zA]at h;subst h;simp[aD]
 |.int k n,v,h,x,v'=>by simp only[toV,zA]at h;subst h;simp[aD]
 |.str l,v,h,x,v'=>by simp only[toV,zA]at h;subst h;simp[aD]
 |.nilp,v,h,x,v'=>by simp only[toV,zA]at h;subst h;simp[aD]
 |.nils,v,h,x,v'=>by simp only[toV,zA]at h;subst h;simp[aD]
 |.nilm,v,h,x,v'=>by simp only[toV,zA]at h;subst h;simp[aD]
 |.nilf,v,h,x,v'=>by simp only[toV,zA]at h;subst h;simp[aD]
 |.nili,v,h,x,v'=>by simp only[toV,zA]at h;subst h;simp[aD]
 |.agg l,v,h,x,v'=>by simp only[toV]at h;rcases hk:okL l with _|_;simp[hk]at h;simp only[hk,zC]at h;rcases hl:eL l with _|vs;simp[hl]at h;simp only[hl,zA]at h;subst h;have:=EK l vs hl x;simp only[aD,hk,and_true];constructor;rintro⟨ws,rfl,h1,h2⟩;rw[(this ws).1 ⟨h1,h2⟩];rintro rfl;exact⟨vs,rfl,((this vs).2 rfl).1,((this vs).2 rfl).2⟩
 |.junk,v,h,x,v'=>by simp[toV]at h
 |.ptr _ _ _,v,h,x,v'=>by simp[toV]at h
 |.iptr _,v,h,x,v'=>by simp[toV]at h
 |.sl _ _ _ _,v,h,x,v'=>by simp[toV]at h
 |.vl _ _ _ _,v,h,x,v'=>by simp[toV]at h
 |.isl _ _,v,h,x,v'=>by simp[toV]at h
 |.map _,v,h,x,v'=>by simp[toV]at h
 |.fn _ _ _,v,h,x,v'=>by simp[toV]at h
 |.tup _,v,h,x,v'=>by simp[toV]at h
theorem EK:(l:List U)->(vs:List Value)->eL l=some vs->∀(x:Cx)(ws:List Value),bB x l ws↔ws=vs
 |[],vs,h,x,ws=>by simp only[eL,zA]at h;subst h;exact⟨fun h=>h.nil_inv,fun h=>h ▸ bB.nil x⟩
 |u::l,vs,h,x,ws=>by simp only[eL]at h;rcases hu:toV u with _|v;simp[hu]at h;rcases hl:eL l with _|tN;simp[hu,hl]at h;simp only[hu,hl,zA]at h;subst h;constructor;intro hr;obtain⟨w,ws',rfl,h1,h2⟩:=hr.inv;rw[(xT u v hu x w).1 h1,(EK l tN hl x ws').1 h2];rintro rfl;exact bB.cons ((xT u v hu x v).2 rfl) ((EK l tN hl x tN).2 rfl)
end
mutual
theorem L5:(v:Value)->(u:U)->iH v=some u->plain v=true/\∀x:Cx,aD x u v
 |.bool b,u,h=>by simp only[iH,zA]at h;subst h;simp[aD,plain]
 |.int k n,u,h=>by simp only[iH,zA]at h;subst h;simp[aD,plain]
 |.string s,u,h=>by simp only[iH,zA]at h;subst h;simp[aD,plain]
 |.pointer none,u,h=>by simp only[iH,zA]at h;subst h;simp[aD,plain]
 |.slice none n c,u,h=>by simp only[iH]at h;split at h;simp only[zA]at h;subst h;simp[aD,plain];cases h
 |.map none,u,h=>by simp only[iH,zA]at h;subst h;simp[aD,plain]
 |.nilFunc,u,h=>by simp only[iH,zA]at h;subst h;simp[aD,plain]
 |.nilIface,u,h=>by simp only[iH,zA]at h;subst h;simp[aD,plain]
 |.agg ⟨l⟩,u,h=>by simp only[iH]at h;rcases hl:pH l with _|us;simp[hl]at h;simp only[hl]at h;rcases hk:okL us with _|_;simp[hk]at h;simp only[hk,zC,zA]at h;subst h;obtain⟨h1,h2⟩:=LD l us hl;exact⟨by simp[plain,h1],fun x=>by simp only[aD];exact⟨l,rfl,(h2 x).1,(h2 x).2,hk⟩⟩
 |.float _ _,u,h=>by simp[iH]at h
 |.complex _ _ _,u,h=>by simp[iH]at h
 |.pointer (some _),u,h=>by simp[iH]at h
 |.slice (some _) _ _,u,h=>by simp[iH]at h
 |.map (some _),u,h=>by simp[iH]at h
 |.chan _,u,h=>by simp[iH]at h
 |.func _ _ _,u,h=>by simp[iH]at h
 |.iface _ _,u,h=>by simp[iH]at h
 |.tuple _,u,h=>by simp[iH]at h
theorem LD:(l:List Value)->(us:List U)->pH l=some us->OY l=true/\∀x:Cx,bB x us l
 |[],us,h=>by simp only[pH,zA]at h;subst h;exact⟨by simp[OY],fun x=>bB.nil x⟩
 |v::l,us,h=>by simp only[pH]at h;rcases hv:iH v with _|u;simp[hv]at h;rcases hl:pH l with _|Aw;simp[hv,hl]at h;simp only[hv,hl,zA]at h;subst h;obtain⟨h1,h2⟩:=L5 v u hv;obtain⟨h3,h4⟩:=LD l Aw hl;exact⟨by simp[OY,h1,h3],fun x=>bB.cons (h2 x) (h4 x)⟩
end
section
variable{x:Cx}{tm:List U}{tv:List Value}(ht:bB x tm tv)
include ht
theorem iF{o:Operand}{u:U}(h:c6 tm o=some u):∃v,evalO tv o=some v/\aD x u v:=by
 cases o with
 |tmp t=>simp only[c6,iQ]at h;obtain⟨v,h1,h2⟩:=ht.get h;exact⟨v,by simp[evalO,iQ,h1],h2⟩
 |const v=>obtain⟨h1,h2⟩:=L5 v u h;exact⟨v,by simp[evalO,h1],h2 x⟩
 |func f=>simp only[c6,zA]at h;subst h;exact⟨_,rfl,by simp only[aD];exact⟨[],[],rfl,by simp[cD],rfl,by simp[cD],rfl⟩⟩|global g=>simp[c6]at h
theorem LP{l:List Operand}{us:List U}(h:lZ tm l=some us):∃vs,jK tv l=some vs/\bB x us vs:=by
 induction l generalizing us with|nil=>simp only[lZ,zA]at h;subst h;exact⟨[],rfl,bB.nil x⟩|cons o l ih=>simp only[lZ]at h;rcases h1:c6 tm o with _|u;simp[h1]at h;rcases h2:lZ tm l with _|Aw;simp[h1,h2]at h;simp only[h1,h2,zA]at h;subst h;obtain⟨v,e1,r1⟩:=iF ht h1;obtain⟨vs,e2,r2⟩:=ih h2;exact⟨v::vs,by simp[jK,e1,e2],bB.cons r1 r2⟩
inductive UR(x:Cx):List (Nat×U)->List (Nat×Value)->Prop
 |nil:UR x [] []
 |cons {i:Nat} {u:U} {v:Value} {l:List (Nat×U)} {m:List (Nat×Value)}:aD x u v->UR x l m->UR x ((i,u)::l) ((i,v)::m)
theorem pn{l:List (Nat×Operand)}{us:List (Nat×U)}(h:xR tm l=some us):∃vs,FY tv l=some vs/\UR x us vs:=by
 induction l generalizing us with|nil=>simp only[xR,zA]at h;subst h;exact⟨[],rfl,.nil⟩|cons o l ih=>obtain⟨i,o⟩:=o;simp only[xR]at h;rcases h1:c6 tm o with _|u;simp[h1]at h;rcases h2:xR tm l with _|Aw;simp[h1,h2]at h;simp only[h1,h2,zA]at h;subst h;obtain⟨v,e1,r1⟩:=iF ht h1;obtain⟨vs,e2,r2⟩:=ih h2;exact⟨(i,v)::vs,by simp[FY,e1,e2],.cons r1 r2⟩
theorem po{o:Option Operand}{r:Option Value}(h:vI tm o=some r):pY tv o=some r:=by
 rcases o with _|o;simpa[vI,pY]using h;simp only[vI]at h;rcases h1:c6 tm o with _|u;simp[h1]at h;obtain⟨v,e1,r1⟩:=iF ht h1;cases u with|int k n=>simp only[h1,zA]at h;simp only[aD]at r1;subst r1;subst h;simp[pY,e1]|_=>simp[h1]at h
end
variable{x:Cx}
variable{u:U}
variable{v:Value}
theorem RJ{f:Value->Option Value}{r:U}(h:g1 f u=some r)(hr:aD x u v):∃rv,f v=some rv/\aD x r rv:=by
 unfold g1 at h;rcases h1:toV u with _|v0;simp[h1]at h;simp only[h1]at h;rcases h2:f v0 with _|rv;simp[h2]at h;simp only[h2]at h;rw[(xT u v0 h1 x v).1 hr];exact⟨rv,h2,(L5 rv r h).2 x⟩
theorem RI{f:Value->Value->Option Value}{a b r:U}{va vb:Value}(h:g2 f a b=some r)(ha:aD x a va)(hb:aD x b vb):∃rv,f va vb=some rv/\aD x r rv:=by
 unfold g2 at h;rcases h1:toV a with _|v1;simp[h1]at h;rcases h2:toV b with _|v2;simp[h1,h2]at h;simp only[h1,h2]at h;rcases h3:f v1 v2 with _|rv;simp[h3]at h;simp only[h3]at h;rw[(xT a v1 h1 x va).1 ha,(xT b v2 h2 x vb).1 hb];exact⟨rv,h3,(L5 rv r h).2 x⟩
theorem qss(hr:aD x u v)(hn:okC u=true):v.oneCell'=true:=by
 cases u with
 |junk=>simp[okC]at hn|agg l=>simp[okC]at hn
 |tup l=>simp[okC]at hn|ptr k st off=>simp only[aD]at hr;exact hr.1
 |sl k off n c=>simp only[aD]at hr;exact hr.1|vl k st off n=>simp only[aD]at hr;exact hr.1
 |map k=>simp only[aD]at hr;exact hr.1|iptr l=>simp only[aD]at hr;obtain⟨_,_,_,_,rfl,_⟩:=hr;rfl
 |isl t l=>simp only[aD]at hr;rcases hr with⟨_,rfl |⟨_,rfl⟩⟩|⟨_,_,_,rfl,_⟩<;>rfl
 |fn f a b=>simp only[aD]at hr;obtain⟨_,_,rfl,_⟩:=hr;rfl
 |_=>simp only[aD]at hr;subst hr;rfl
variable{l:List U}
variable{vs:List Value}
theorem PQ(hr:bB x l vs)(hk:okL l=true):qM vs=true:=by
 induction l generalizing vs with|nil=>rw[hr.nil_inv];rfl|cons u l ih=>obtain⟨v,tN,rfl,h1,h2⟩:=hr.inv;simp only[okL]at hk;obtain⟨k1,k2⟩:=JK hk;simp[qM,qss h1 k1,ih h2 k2]
theorem pq{cs:List U}(hr:aD x u v)(h:vJ u=some cs):bB x cs v.cells.toList/\okL cs=true:=by
 have one:okC u=true->cs=[u]->bB x cs v.cells.toList/\okL cs=true:=fun h1 h2=>by
  subst h2;have:=qss hr h1;have e:v.cells= #[v]:=by cases v<;>first |rfl |(simp[Value.oneCell']at this)
  rw[e];exact⟨bB.cons hr (bB.nil x),by simp[okL,h1]⟩
 cases u with
 |junk=>simp[vJ]at h|tup l=>simp[vJ]at h
 |agg l=>simp only[vJ,zA]at h;subst h;simp only[aD]at hr;obtain⟨vs,rfl,h1,h2,h3⟩:=hr;exact⟨⟨h1,h2⟩,h3⟩
 |_=>simp only[vJ,zA]at h;exact one rfl h.symm
theorem z7y(h:aD x u v):aD x (Gi u) v:=by
 cases u with
 |nils=>simp only[Gi,aD]at*;exact .inl ⟨trivial,.inl h⟩|isl t l=>simp only[Gi,aD]at*;rcases h with h |⟨i,off,c,h1,h2,h3⟩;exact .inl h;exact .inr ⟨i,off,c,h1,(fun h=>by cases h),h3⟩
 |_=>exact h
theorem T7(u:U):okC (Gi u)=okC u:=by cases u<;>rfl
theorem Wj:∀l:List U,(pU l).length=l.length
 |[]=>rfl|u::l=>by simp[pU,Wj l]
theorem Bj:∀l:List U,okL (pU l)=okL l
 |[]=>rfl|u::l=>by simp[pU,okL,T7,Bj l]
theorem qx7{x:Cx}:∀{l:List U}{vs:List Value},cD x l vs->cD x (pU l) vs
 |[],vs,h=>by simp[pU,cD]
 |u::l,[],h=>by simp[cD]at h
 |u::l,v::vs,h=>by simp only[pU,cD]at*;exact⟨z7y h.1,qx7 h.2⟩
theorem Jb(h:bB x l vs):bB x (pU l) vs:=⟨qx7 h.1,by rw[Wj];exact h.2⟩
theorem z7x{O:Sg}{k:Nat}(h:bB x l vs):bB x (DX O k l) vs:=by
 unfold DX;split;exact Jb h;exact h
theorem T8(O:Sg)(k:Nat)(l:List U):okL (DX O k l)=okL l:=by
 unfold DX;split;exact Bj l;rfl
structure Out(x y:Cx):Prop where
 h:jZ y
 mo:Mo x.O.nx x y
 fr:∀F,Fr F x->Fr F y
def nc:EF:=fun _ _ _=>none
def oY(T:Tb)(x:Cx)(tv:List Value)(op:Op)(u:U)(O':Sg):Prop:=∃v y,xU T nc tv x.s op=some (v,y.s)/\y.O=O'/\aD y u v/\Out x y
theorem Mo.refl(n:Nat)(x:Cx):Mo n x x:=⟨fun k _ h2=>⟨h2,fun b hb=>⟨b,hb,zF _,fun _=>⟨rfl,fun l e sz st h=>⟨l,h⟩⟩⟩⟩,fun _ _ _ h=>h⟩
theorem Out.refl{x:Cx}(h:jZ x):Out x x:=⟨h,Mo.refl _ _,fun _ h=>h⟩
variable{T:Tb}
variable{tv:List Value}
variable{op:Op}
theorem oY.same(hx:jZ x)(h:xU T nc tv x.s op=some (v,x.s))(hr:aD x u v):oY T x tv op u x.O:=⟨v,x,h,rfl,hr,Out.refl hx⟩
variable{call:EF}
variable{s:S}
theorem z45(h:hH T tv op=some v):xU T call tv s op=some (v,s):=by simp[xU,h]
theorem Jt(h0:hH T tv op=none)(h:mX T tv s op=some v):xU T call tv s op=some (v,s):=by simp[xU,h,h0]
theorem qwa{r:Value×S}(h0:hH T tv op=none)(h1:mX T tv s op=none)(h:rX T tv s op=some r):xU T call tv s op=some r:=by simp[xU,h,h0,h1]
def bump(x:Cx):Cx:=⟨x.Y,x.O,⟨x.s.h,x.s.nx+1⟩⟩
theorem ua(n:Nat)(x:Cx):Mo n x (bump x):=⟨fun k _ h2=>⟨h2,fun b hb=>⟨b,hb,zF _,fun _=>⟨rfl,fun l e sz st h=>⟨l,h⟩⟩⟩⟩,fun _ _ _ h=>h⟩
theorem sg(h:aD x u v):aD (bump x) u v:=(ua x.O.nx x).ke u v (aD.bel u v h) h
theorem SJ(h:bB x l vs):bB (bump x) l vs:=(ua x.O.nx x).ke.E h.bel h
theorem z32(h:jZ x):Out x (bump x):=by
 refine⟨⟨fun k b hb=>?_,h.inj,fun i b hb=>Nat.lt_succ_of_lt (h.bd i b hb)⟩,ua _ _,fun F J=>J⟩;obtain⟨h1,h2⟩:=h.ok k b hb;refine⟨h1,?_⟩;cases b with
 |row l e=>obtain⟨k1,i,l',e1,e2,e3⟩:=h2;exact⟨k1,i,l',e1,e2,SJ e3⟩
 |vec l e sz st=>obtain⟨k1,k2,h3⟩:=h2;refine⟨k1,k2,?_⟩;rcases h3 with h3 |⟨i,l',e1,e2,e3⟩;exact .inl h3;exact .inr ⟨i,l',e1,e2,SJ e3⟩
 |map es cl=>obtain⟨i,es',e1,e2,e3⟩:=h2;refine⟨i,es',e1,e2,e3.1,fun j e he=>?_⟩;obtain⟨v,q1,q2,q3,q4⟩:=e3.2 j e he;exact⟨v,q1,sg q2,sg q3,q4⟩
end Go.Vx
namespace Go.Vx
open Go Go.Rx
variable{l:List Value}
variable{n:Nat}
theorem z4p(h:n<=l.length):FU l n=some (l.take n):=by
 induction l generalizing n with
 |nil=>simp at h;subst h;simp[FU]|cons a l ih=>cases n with
  |zero=>simp[FU]|succ n=>simp[FU,ih (by simpa using h)]
variable{off:Nat}
theorem Il(h:off+n<=l.length):v8 l off n=some ((l.drop off).take n):=z4p (by simp;omega)
variable{vs:List Value}
theorem z7h(h:vs.length<=l.length):E6 l vs=some (vs++l.drop vs.length):=by
 induction vs generalizing l with
 |nil=>simp[E6]|cons v vs ih=>cases l with
  |nil=>simp at h|cons a l=>simp[E6,ih (by simpa using h)]
theorem z7i(h:off+vs.length<=l.length):rV l off vs=some (l.take off++(vs++l.drop (off+vs.length))):=by
 induction l generalizing off with
 |nil=>simp at h;obtain⟨rfl,rfl⟩:=h;simp[rV,E6]
 |cons a l ih=>cases off with
  |zero=>simp only[rV,Nat.zero_add]at*;rw[z7h h];simp|succ off=>simp[rV,ih (off:=off) (by simp at h;omega),Nat.succ_add]
variable{l:List U}
theorem LI(h:okL l=true)(n:Nat):okL (l.take n)=true:=(LC _).2 fun u hu=>(LC l).1 h u (List.mem_of_mem_take hu)
theorem EL(h:okL l=true)(n:Nat):okL (l.drop n)=true:=(LC _).2 fun u hu=>(LC l).1 h u (List.mem_of_mem_drop hu)
theorem G8{a b:List U}(h:okL a=true)(h':okL b=true):okL (a++b)=true:=(LC _).2 fun u hu=>(yD.1 hu).elim ((LC a).1 h u) ((LC b).1 h' u)
variable{r:List U}
theorem PO(h:jX l off n=some r):off+n<=l.length/\r=(l.drop off).take n:=by
 unfold jX at h;split at h;simp at h;exact⟨by assumption,h.symm⟩;cases h
theorem qsw{vs:List U}(h:oM l off vs=some r):off+vs.length<=l.length/\r=l.take off++(vs++l.drop (off+vs.length)):=by
 unfold oM at h;split at h;simp at h;exact⟨by assumption,h.symm⟩;cases h
variable{x:Cx}
theorem Wp{vs:List U}{lv vv:List Value}(h:oM l off vs=some r)(hl:bB x l lv)(hv:bB x vs vv):∃rv,rV lv off vv=some rv/\bB x r rv/\(okL l=true->okL vs=true->okL r=true):=by
 obtain⟨h1,rfl⟩:=qsw h;refine⟨_,z7i (by rw[<-hl.2,<-hv.2];exact h1),?_,fun a b=>G8 (LI a _) (G8 b (EL a _))⟩;rw[<-hv.2];exact(hl.take _).append (hv.append (hl.drop _))
theorem d?{lv:List Value}(h:jX l off n=some r)(hl:bB x l lv):v8 lv off n=some ((lv.drop off).take n)/\bB x r ((lv.drop off).take n):=by
 obtain⟨h1,rfl⟩:=PO h;exact⟨Il (by rw[<-hl.2];exact h1),(hl.drop _).take _⟩
theorem Ka{x:Cx}{place:Nat->Option (Nat×Nat)}:∀{ps:List (Nat×U)}{pv:List (Nat×Value)}{cells r:List U}{cv:List Value},UR x ps pv->bB x cells cv->tV place cells ps=some r->∃rv,CK place cv pv=some rv/\bB x r rv
 |_,_,cells,r,cv,.nil,hc,h=>by simp only[tV,zA]at h;subst h;exact⟨cv,rfl,hc⟩
 |_,_,cells,r,cv,.cons (i:=i) (u:=u) (v:=v) (l:=l) (m:=m) hu hp,hc,h=>by simp only[tV]at h;rcases h1:place i with _|q;simp[h1]at h;obtain⟨off,size⟩:=q;simp only[h1]at h;rcases h2:vJ u with _|cs;simp[h2]at h;simp only[h2]at h;obtain⟨c1,c2⟩:=pq hu h2;rcases h3:Nat.beq cs.length size with _|_;simp[h3]at h;simp only[h3,zC]at h;rcases h4:oM cells off cs with _|c;simp[h4]at h;simp only[h4]at h;obtain⟨rv,q1,q2,_⟩:=Wp h4 hc c1;obtain⟨rv',q3,q4⟩:=Ka hp q2 h;exact⟨rv',by simp only[CK,h1];rw[<-c1.2,h3];simp only[zC,q1,q3],q4⟩
variable{T:Tb}
variable{t:TypeId}
variable{u:U}
theorem qwh{cs:List U}(h:Uw T t cs off=some u)(hc:bB x cs vs)(hk:okL cs=true):∃v,EA T t vs off=some v/\aD x u v:=by
 unfold Uw at h;unfold EA;rcases hd:T.und t with _|d;simp[hd]at h;simp only[hd]at h ⊢;cases ha:qA d with
 |true=>simp only[ha,zC]at h ⊢;rcases hs:cC T t with _|n;simp[hs]at h;simp only[hs,zA]at h ⊢;subst h;refine⟨_,rfl,?_⟩;simp only[aD];exact⟨_,rfl,((hc.drop off).take n).1,((hc.drop off).take n).2,LI (EL hk _) _⟩
 |false=>simp only[ha,zD,iQ]at h ⊢;exact hc.get h
theorem qyq{ps:List (Nat×U)}{pv:List (Nat×Value)}(h:Bt T t ps=some u)(hp:UR x ps pv):∃v,Iz T t pv=some v/\aD x u v:=by
 unfold Bt at h;unfold Iz;rcases hi:T.inf t with _|q;simp[hi]at h;obtain⟨a,b,z⟩:=q;simp only[hi]at h ⊢;rcases hz:pH z.cells.toList with _|zu;simp[hz]at h;simp only[hz]at h;have sE:=(LD _ _ hz).2 x;rcases hd:T.und t with _|d;simp[hd]at h;cases d with
 |struct fs=>simp only[hd]at h ⊢;rcases hs:G1 T fs.toList with _|_;simp[hs]at h;simp only[hs,zC]at h ⊢;rcases hf:tV (JE T fs.toList) zu ps with _|cs;simp[hf]at h;simp only[hf]at h;rcases hk:okL cs with _|_;simp[hk]at h;simp only[hk,zC,zA]at h;subst h;obtain⟨rv,q1,q2⟩:=Ka hp sE hf;exact⟨.agg rv.toArray,by simp[q1],by simp only[aD];exact⟨rv,rfl,q2.1,q2.2,hk⟩⟩
 |array n e=>simp only[hd]at h ⊢;rcases hs:cC T e with _|sz;simp[hs]at h;simp only[hs]at h ⊢;rcases hf:tV (fun i=>some (i*sz,sz)) zu ps with _|cs;simp[hf]at h;simp only[hf]at h;rcases hk:okL cs with _|_;simp[hk]at h;simp only[hk,zC,zA]at h;subst h;obtain⟨rv,q1,q2⟩:=Ka hp sE hf;exact⟨.agg rv.toArray,by simp[q1],by simp only[aD];exact⟨rv,rfl,q2.1,q2.2,hk⟩⟩
 |_=>simp[hd]at h
variable{O:Sg}
variable{k:Nat}
theorem Kl{st:Nat}(h:c7 O k st=true):∃b,gt O.h k=some b/\b.st=st:=by
 unfold c7 at h;rcases hb:gt O.h k with _|b;simp[hb]at h;simp only[hb,beq_eq,decide_eq_true_eq]at h;exact⟨b,rfl,h⟩
variable{v:Value}
theorem VC{st:Nat}(hl:c7 x.O k st=true)(hr:aD x (.ptr k st off) v):∃i,x.Y k=some i/\v=.pointer (some ⟨i,off,none⟩):=by
 obtain⟨b,h1,h2⟩:=Kl hl;simp only[aD]at hr;exact((hr.2.2 b h1).2 h2.symm)
theorem LG{c:Nat}(hl:c7 x.O k 0=true)(hr:aD x (.sl k off n c) v):∃i,x.Y k=some i/\v=.slice (some ⟨i,off,none⟩) n c/\c<bS/\n<=c:=by
 obtain⟨b,h1,h2⟩:=Kl hl;simp only[aD]at hr;exact((hr.2.2 b h1).2 h2.symm)
theorem Xd(hl:c7 x.O k 0=true)(hr:aD x (.map k) v):∃i,x.Y k=some i/\v=.map (some i):=by
 obtain⟨b,h1,h2⟩:=Kl hl;simp only[aD]at hr;exact((hr.2.2 b h1).2 h2.symm)
theorem V4{st:Nat}(hl:c7 x.O k st=true)(hr:aD x (.vl k st off n) v):∃l e sz,gt x.O.h k=some (.vec l e sz st)/\IR off n v sz (x.Y k):=by
 obtain⟨b,h1,h2⟩:=Kl hl;simp only[aD]at hr;obtain⟨l,e,sz,rfl,h3⟩:=(hr.2.2 b h1).2 h2.symm;exact⟨l,e,sz,h1,h3⟩
theorem Xt{st:Nat}{r:List U×TypeId×Nat}(h:xJ O k st=some r):gt O.h k=some (.vec r.1 r.2.1 r.2.2 st)/\c7 O k st=true:=by
 unfold xJ at h;rcases hb:gt O.h k with _|b;simp[hb]at h;cases b with
 |vec l e sz cT=>simp only[hb,beq_eq]at h;by_cases c8:cT=st;subst c8;simp at h;subst h;exact⟨rfl,by simp[c7,hb,B.st]⟩;simp[c8]at h|_=>simp[hb]at h
theorem py(h:rowOf O k=some l):∃e,gt O.h k=some (.row l e)/\c7 O k 0=true:=by
 unfold rowOf at h;rcases hb:gt O.h k with _|b;simp[hb]at h;cases b with
 |row l' e=>simp[hb]at h;subst h;exact⟨e,rfl,by simp[c7,hb,B.st]⟩|_=>simp[hb]at h
theorem vn{sz:Nat}{o:Option Nat}(h:IR off n v sz o):∃a c,v=.slice a n c:=by
 cases o with
 |none=>obtain⟨_,rfl,o,rfl,_⟩:=h;exact⟨o,0,rfl⟩
 |some i=>rcases h with⟨_,rfl,a,c,rfl,_⟩|rfl<;>exact⟨_,_,rfl⟩
theorem uh(hx:jZ x){st:Nat}(hl:c7 x.O k st=true)(hr:aD x (.vl k st off n) v)(hn:0<n):
  ∃i l e sz l',gt x.O.h k=some (.vec l e sz st)/\x.Y k=some i/\v=.slice (some ⟨i,off*sz,none⟩) n (bS+off)/\lk x.s.h i=some (.inl (l',e,sz+2))/\bB x l l'/\0<sz/\okL l=true:=by
 obtain⟨l,e,sz,h1,h2⟩:=V4 hl hr;obtain⟨_,k1,k2,h3⟩:=hx.ok k _ h1;rcases h3 with⟨_,h3⟩|⟨i,l',e1,e2,e3⟩;rw[h3]at h2;obtain⟨_,rfl,_⟩:=h2;omega;rw[e1]at h2;rcases h2 with⟨_,rfl,_⟩|h2;omega;exact⟨i,l,e,sz,l',h1,e1,h2,e2,e3,k2,k1⟩
theorem qx3(hx:jZ x)(hr:aD x u v)(h:gK x.O u=k)(hk:k≠0):
  (k=1/\∃a,v=.pointer (some a))\/(k=2/\∃a n c,v=.slice (some a) n c)\/(k=3/\∃r,v=.map (some r)):=by
 cases u with
 |ptr k' st off=>simp only[gK]at h;rcases hl:c7 x.O k' st with _|_;simp[hl]at h;omega;simp[hl]at h;obtain⟨i,_,rfl⟩:=VC hl hr;exact .inl ⟨h.symm,_,rfl⟩
 |iptr l=>simp only[gK]at h;simp only[aD]at hr;obtain⟨i,off,_,_,rfl,_⟩:=hr;exact .inl ⟨h.symm,_,rfl⟩
 |sl k' off n c=>simp only[gK]at h;rcases hl:c7 x.O k' 0 with _|_;simp[hl]at h;omega;simp[hl]at h;obtain⟨i,_,rfl,_⟩:=LG hl hr;exact .inr (.inl ⟨h.symm,_,_,_,rfl⟩)
 |vl k' st off n=>cases n with|zero=>simp[gK]at h;omega|succ n=>simp only[gK]at h;rcases hl:c7 x.O k' st with _|_;simp[hl]at h;omega;simp[hl]at h;obtain⟨i,l,e,sz,l',_,_,rfl,_⟩:=uh hx hl hr (Nat.succ_pos _);exact .inr (.inl ⟨h.symm,_,_,_,rfl⟩)
 |isl t l=>rcases l with _|⟨c,l⟩;simp[gK]at h;omega;simp only[gK]at h;simp only[aD]at hr;rcases hr with⟨hr,_⟩|⟨i,off,c',rfl,_⟩;cases hr;exact .inr (.inl ⟨h.symm,_,_,_,rfl⟩)
 |map k'=>simp only[gK]at h;rcases hl:c7 x.O k' 0 with _|_;simp[hl]at h;omega;simp[hl]at h;obtain⟨i,_,rfl⟩:=Xd hl hr;exact .inr (.inr ⟨h.symm,_,rfl⟩)
 |_=>simp[gK]at h;omega
theorem qp8(hr:aD x u v)(h:JD u=k)(hk:k≠0):(k=1/\v=.pointer none)\/(k=2/\v=.slice none 0 0)\/(k=3/\v=.map none):=by
 cases u with
 |nilp=>simp only[JD]at h;simp only[aD]at hr;exact .inl ⟨h.symm,hr⟩|nils=>simp only[JD]at h;simp only[aD]at hr;exact .inr (.inl ⟨h.symm,hr⟩)
 |nilm=>simp only[JD]at h;simp only[aD]at hr;exact .inr (.inr ⟨h.symm,hr⟩)|_=>simp[JD]at h;omega
theorem z0c(hx:jZ x){op:BinOp}{a b:U}{va vb:Value}(h:Bp T x.O op t a b=some u)(ha:aD x a va)(hb:aD x b vb):∃v,sS T op t va vb=some v/\aD x u v:=by
 unfold Bp at h;simp only[beq_eq]at h;by_cases h0:xM T t=0;simp[h0]at h;simp only[h0,yB,zD]at h;have key:DN op=some u->
   (xM T t=1/\((∃p,va=.pointer (some p))/\vb=.pointer none\/va=.pointer none/\∃p,vb=.pointer (some p)))\/
   (xM T t=2/\((∃p n c,va=.slice (some p) n c)/\vb=.slice none 0 0\/va=.slice none 0 0/\∃p n c,vb=.slice (some p) n c))\/
   (xM T t=3/\((∃p,va=.map (some p))/\vb=.map none\/va=.map none/\∃p,vb=.map (some p)))->∃v,sS T op t va vb=some v/\aD x u v:=by
  intro sF hk;have D4:∀{k:Nat},xM T t=k->k≠0->(k=1->∃e,T.und t=some (.pointer e))/\(k=2->∃e,T.und t=some (.slice e))/\(k=3->∃e e',T.und t=some (.map e e')):=by intro k hk MZ;unfold xM at hk;rcases hd:T.und t with _|d;simp[hd]at hk;omega;cases d<;>simp[hd]at hk<;>subst hk<;>simp at MZ ⊢
  rcases hk with⟨hk,hv⟩|⟨hk,hv⟩|⟨hk,hv⟩;obtain⟨e,he⟩:=(D4 hk (by omega)).1 rfl;rcases hv with⟨⟨p,rfl⟩,rfl⟩|⟨rfl,p,rfl⟩<;>cases op<;>simp[DN]at sF<;>subst sF<;>simp[sS,yP,eqv,he,aD];obtain⟨e,he⟩:=(D4 hk (by omega)).2.1 rfl;rcases hv with⟨⟨p,n,c,rfl⟩,rfl⟩|⟨rfl,p,n,c,rfl⟩<;>cases op<;>simp[DN]at sF<;>subst sF<;>simp[sS,yP,eqv,he,aD];obtain⟨e,e',he⟩:=(D4 hk (by omega)).2.2 rfl;rcases hv with⟨⟨p,rfl⟩,rfl⟩|⟨rfl,p,rfl⟩<;>cases op<;>simp[DN]at sF<;>subst sF<;>simp[sS,yP,eqv,he,aD]
 by_cases h1:gK x.O a=xM T t;by_cases h2:JD b=xM T t;simp only[h1,h2,yC,zC]at h;refine key h ?_;rcases qx3 hx ha h1 h0 with⟨e1,q⟩|⟨e1,q⟩|⟨e1,q⟩<;>rcases qp8 hb h2 h0 with⟨e2,q'⟩|⟨e2,q'⟩|⟨e2,q'⟩<;>first |omega |skip
 exact .inl ⟨e1,.inl ⟨q,q'⟩⟩;exact .inr (.inl ⟨e1,.inl ⟨q,q'⟩⟩);exact .inr (.inr ⟨e1,.inl ⟨q,q'⟩⟩);simp[h1,h2]at h;simp only[h1,yB,zD]at h;by_cases h2:JD a=xM T t;by_cases h3:gK x.O b=xM T t;simp only[h2,h3,yC,zC]at h;refine key h ?_;rcases qx3 hx hb h3 h0 with⟨e1,q⟩|⟨e1,q⟩|⟨e1,q⟩<;>rcases qp8 ha h2 h0 with⟨e2,q'⟩|⟨e2,q'⟩|⟨e2,q'⟩<;>first |omega |skip
 exact .inl ⟨e1,.inr ⟨q',q⟩⟩;exact .inr (.inl ⟨e1,.inr ⟨q',q⟩⟩);exact .inr (.inr ⟨e1,.inr ⟨q',q⟩⟩);simp[h2,h3]at h;simp[h2]at h
theorem z6h(hx:jZ x){op:BinOp}{a b:U}{va vb:Value}(h:IA T x.O op t a b=some u)(ha:aD x a va)(hb:aD x b vb):∃v,sS T op t va vb=some v/\aD x u v:=by
 unfold IA at h;rcases h1:g2 (sS T op t) a b with _|r;simp only[h1]at h;exact z0c hx h ha hb;simp only[h1,zA]at h;subst h;exact RI h1 ha hb
variable{v:Value}
variable{n:Nat}
theorem CO{y y':Nat}(h:iX v y=some n)(hy:y<=y'):iX v y'=some n/\n<=y:=by
 unfold iX at*;cases v with
 |int k i=>
  simp only at*;rcases h1:qD i (y+1)with _|_;simp[h1]at h;simp only[h1,zC,zA]at h;obtain⟨a,b⟩:=VD h1;have:qD i (y'+1)=true:=by
   unfold qD;cases i with
   |ofNat k=>simp at b ⊢;omega|negSucc k=>omega
  exact⟨by simp[this,h],by omega⟩
 |_=>simp at h
variable{c:Nat}
variable{lo:Option Value}
variable{hi:Option Value}
variable{l:Nat}
variable{h:Nat}
variable{m:Nat}
theorem PK(hb:g9 n n lo hi none=some (l,h,m))(hc:n<=c):g9 n c lo hi none=some (l,h,c)/\l<=h/\h<=n/\m=n:=by
 unfold g9 at*;simp only at*;cases hi with
 |none=>
  simp only at*;cases lo with
  |none=>simp only[zA,zB]at hb ⊢;obtain⟨rfl,rfl,rfl⟩:=hb;simp
  |some v=>simp only at*;rcases h1:iX v n with _|k;simp[h1]at hb;simp only[h1,zA,zB]at hb ⊢;obtain⟨rfl,rfl,rfl⟩:=hb;simp[(CO h1 (zF _)).2]
 |some w=>
  simp only at*;rcases h2:iX w n with _|k2;simp[h2]at hb;obtain⟨e2,e3⟩:=CO h2 hc;simp only[h2,e2]at hb ⊢;cases lo with
  |none=>simp only[zA,zB]at hb ⊢;obtain⟨rfl,rfl,rfl⟩:=hb;simp[e3]
  |some v=>simp only at*;rcases h1:iX v k2 with _|k;simp[h1]at hb;simp only[h1,zA,zB]at hb ⊢;obtain⟨rfl,rfl,rfl⟩:=hb;simp[(CO h1 (zF _)).2,e3]
theorem Kd{vm:Value}(hb:g9 n n lo hi (some vm)=some (l,h,m)):iX vm n=some m/\l<=h/\h<=m/\m<=n/\∀c,m<=c->g9 n c lo hi (some vm)=some (l,h,m):=by
 unfold g9 at*;simp only at*;rcases h0:iX vm n with _|k0;simp[h0]at hb;simp only[h0]at hb;have e0:=(CO h0 (zF _)).2;have grow:∀c,k0<=c->iX vm c=some k0:=fun c hc=>by
  unfold iX at*;cases vm with
  |int k i=>
   simp only at*;rcases h1:qD i (n+1)with _|_;simp[h1]at h0;simp only[h1,zC,zA]at h0;obtain⟨a,b⟩:=VD h1;have:qD i (c+1)=true:=by
    unfold qD;cases i with
    |ofNat k=>simp at h0 ⊢;omega|negSucc k=>omega
   simp[this,h0]
  |_=>simp at h0
 rcases hi with _|w;simp at hb;simp only at*;rcases h2:iX w k0 with _|k2;simp[h2]at hb;have e3:=(CO h2 (zF _)).2;simp only[h2]at hb;cases lo with
 |none=>simp only[zA,zB]at hb;obtain⟨rfl,rfl,rfl⟩:=hb;exact⟨rfl,by omega,e3,e0,fun c hc=>by simp[grow c hc,h2]⟩
 |some v=>simp only at*;rcases h1:iX v k2 with _|k;simp[h1]at hb;simp only[h1,zA,zB]at hb;obtain⟨rfl,rfl,rfl⟩:=hb;exact⟨rfl,(CO h1 (zF _)).2,e3,e0,fun c hc=>by simp[grow c hc,h2,h1]⟩
variable{mx:Option Value}
theorem z2y(hb:g9 n c lo hi mx=some (l,h,m)):l<=h/\m<=c:=by
 unfold g9 at hb;cases mx with
 |none=>
  simp only at hb;cases hi with
  |none=>simp only at hb;rcases lo with _|v;simp only[zA,zB]at hb;omega;simp only at hb;rcases h1:iX v n with _|k;simp[h1]at hb;simp only[h1,zA,zB]at hb;have:=(CO h1 (zF _)).2;omega
  |some w=>simp only at hb;rcases h2:iX w c with _|k2;simp[h2]at hb;simp only[h2]at hb;rcases lo with _|v;simp only[zA,zB]at hb;omega;simp only at hb;rcases h1:iX v k2 with _|k;simp[h1]at hb;simp only[h1,zA,zB]at hb;have:=(CO h1 (zF _)).2;omega
 |some vm=>simp only at hb;rcases h0:iX vm c with _|k0;simp[h0]at hb;have e0:=(CO h0 (zF _)).2;simp only[h0]at hb;rcases hi with _|w;simp at hb;simp only at hb;rcases h2:iX w k0 with _|k2;simp[h2]at hb;simp only[h2]at hb;rcases lo with _|v;simp only[zA,zB]at hb;omega;simp only at hb;rcases h1:iX v k2 with _|k;simp[h1]at hb;simp only[h1,zA,zB]at hb;have:=(CO h1 (zF _)).2;omega
theorem z2z(hb:g9 n c lo hi mx=some (l,h,m))(hn:n<=c):h<=m:=by
 unfold g9 at hb;cases mx with
 |none=>
  simp only at hb;cases hi with
  |none=>simp only at hb;rcases lo with _|v;simp only[zA,zB]at hb;omega;simp only at hb;rcases h1:iX v n with _|k;simp[h1]at hb;simp only[h1,zA,zB]at hb;omega
  |some w=>simp only at hb;rcases h2:iX w c with _|k2;simp[h2]at hb;have:=(CO h2 (zF _)).2;simp only[h2]at hb;rcases lo with _|v;simp only[zA,zB]at hb;omega;simp only at hb;rcases h1:iX v k2 with _|k;simp[h1]at hb;simp only[h1,zA,zB]at hb;omega
 |some vm=>simp only at hb;rcases h0:iX vm c with _|k0;simp[h0]at hb;simp only[h0]at hb;rcases hi with _|w;simp at hb;simp only at hb;rcases h2:iX w k0 with _|k2;simp[h2]at hb;have:=(CO h2 (zF _)).2;simp only[h2]at hb;rcases lo with _|v;simp only[zA,zB]at hb;omega;simp only at hb;rcases h1:iX v k2 with _|k;simp[h1]at hb;simp only[h1,zA,zB]at hb;omega
theorem Xb{x:Cx}{sz:Nat}:∀{l:List (List U)}{vs:List Value},gU x sz l vs->∀(i:Nat)(c:List U),l[i]? = some c->c.length=sz/\okL c=true/\cD x c (vs.drop (i*sz))
 |[],vs,h,i,c,hc=>by simp at hc
 |d::l,vs,h,i,c,hc=>by
  simp only[gU]at h;cases i with
  |zero=>simp at hc;subst hc;exact⟨h.1,h.2.1,by simpa using h.2.2.1⟩|succ i=>simp at hc;have:=Xb h.2.2.2 i c hc;rw[List.drop_drop]at this;rw[Nat.succ_mul,Nat.add_comm];exact this
theorem j?{x:Cx}{sz:Nat}:∀{l:List (List U)}{vs:List Value},(∀(i:Nat)(c:List U),l[i]? = some c->c.length=sz/\okL c=true/\cD x c (vs.drop (i*sz)))->gU x sz l vs
 |[],vs,h=>by simp[gU]
 |d::l,vs,h=>by simp only[gU];have h0:=h 0 d rfl;refine⟨h0.1,h0.2.1,by simpa using h0.2.2,j? fun i c hc=>?_⟩;have:=h (i+1) c (by simpa using hc);rw[List.drop_drop];rw[Nat.succ_mul,Nat.add_comm]at this;exact this
theorem z3a{X:Type}(l:List X)(a h i:Nat):(oO l a h)[i]? = if a+i<h then l[a+i]? else none:=by
 unfold oO;rw[List.getElem?_drop,List.getElem?_take]
variable{a:Nat}
theorem qve{X:Type}{l:List X}(hh:h<=l.length):(oO l a h).length=h-a:=by simp[oO];omega
variable{x:Cx}
variable{sz:Nat}
theorem z4i{l:List (List U)}{vs:List Value}(hr:gU x sz l vs):gU x sz (oO l a h) (vs.drop (a*sz)):=by
 refine j? fun i c hc=>?_;rw[z3a]at hc;split at hc;have:=Xb hr _ _ hc;rw[List.drop_drop];rw[Nat.add_mul]at this;exact this;cases hc
theorem L_{l:List (List U)}(h:(l.all fun c=>Nat.beq c.length sz)=true):∀c∈l,c.length=sz:=fun c hc=>by
 have:=List.all_eq_true.1 h c hc;simpa[beq_eq]using this
theorem i?{hZ:Nat}{l:List (List U)}{vs:List Value}(hr:gU x sz l vs)(cW:l≠[])(h:(l.all fun c=>Nat.beq c.length hZ)=true):sz=hZ:=by
 rcases l with _|⟨c,l⟩;exact absurd rfl cW;rw[<-(Xb hr 0 c rfl).1];exact L_ h c (by simp)
theorem Xa{x:Cx}{sz:Nat}:∀{l:List (List U)}{vs:List Value},gU x sz l vs->l.length*sz<=vs.length
 |[],vs,h=>by simp
 |d::l,vs,h=>by simp only[gU]at h;have h1:=cD.len h.2.2.1;have h2:=Xa h.2.2.2;rw[List.length_drop]at h2;rw[zO,Nat.succ_mul];omega
theorem qt8{x:Cx}{sz:Nat}:∀{l:List (List U)}{vs:List Value},gU x sz l vs->bB x l.flatten (vs.take (l.length*sz))/\okL l.flatten=true
 |[],vs,h=>by simpa[okL]using bB.nil x
 |d::l,vs,h=>by
  have aU:=Xa h;simp only[gU]at h;obtain⟨h1,h2,h3,h4⟩:=h;obtain⟨g1,g2⟩:=qt8 h4;refine⟨?_,by simpa using G8 h2 g2⟩;have e:vs.take ((d::l).length*sz)=vs.take d.length++(vs.drop sz).take (l.length*sz):=by rw[zO,Nat.succ_mul,Nat.add_comm,List.take_add,h1]
  rw[e,List.flatten_cons];exact h3.takeE.append g1
def qv2(T:Tb)(x:Cx)(t:TypeId)(u:U)(va:Value)(lo hi mx:Option Value):Prop :=
 (∃v,mZ T t va lo hi mx=some v/\aD x u v)\/(mZ T t va lo hi mx=none/\∃v,EG T x.s t va lo hi mx=some v/\aD x u v)\/ (mZ T t va lo hi mx=none/\EG T x.s t va lo hi mx=none/\∃v,Bl T x.s t va lo hi mx=some (v,(bump x).s)/\aD (bump x) u v)
theorem pN{b:Nat}(h:a<b):Nat.blt a b=true:=Nat.ble_eq_true_of_le h
theorem JF{b:Nat}(h:¬ a<b):Nat.blt a b=false:=by
 rcases hb:Nat.blt a b with _|_;rfl;exact absurd (G6 hb) h
variable{T:Tb}
variable{t:TypeId}
variable{e:TypeId}
variable{i:Nat}
variable{off:Nat}
variable{row:List Value}
theorem qnw(hd:T.und t=some (.slice e))(hs:cC T e=some sz)(dS:0<sz){d:Nat}(hn:0<n)(dN:off=d*sz)(fY:CL x.s i sz=some row)
  (aU:off+n*sz<=row.length) (hb:g9 n n lo hi none=some (l,h,m)):
  let va:=Value.slice (some ⟨i,off,none⟩) n (bS+d)
  mZ T t va lo hi none=none/\(if l<h\/l=0 then EG T x.s t va lo hi none=some (.slice (some ⟨i,(d+l)*sz,none⟩) (h-l) (bS+(d+l)))
   else EG T x.s t va lo hi none=none/\Bl T x.s t va lo hi none=some (.slice (some ⟨x.s.nx,0,none⟩) 0 bS,(bump x).s)):=by
 have hc:Nat.blt (bS+d) bS=false:=JF (by omega);obtain⟨n',rfl⟩:∃q,n=q+1:=⟨n-1,by omega⟩;have y5:bN (bS+d)=d:=by simp[bN]
 have uW:n'+1<=(row.length-off)/sz:=by rw[Nat.le_div_iff_mul_le dS];omega
 obtain⟨b1,b2,b3,_⟩:=PK hb uW;have HI:Nat.ble (off+h*sz) row.length=true:=Nat.ble_eq_true_of_le (by have:h*sz<=(n'+1)*sz:=Nat.mul_le_mul_right _ b3;omega);refine⟨by simp[mZ,hd,hc,emptyS],?_⟩;have HK:Nat.beq off (d*sz)=true:=by simp[dN]
 have fC:Nat.blt 0 sz=true:=pN dS;cases l with
 |zero=>simp only[or_true,if_true];simp only[EG,hd,hc,zD,hs,fY,y5,HK,zC,fC,b1,HI];simp[dN]|succ l=>
  by_cases aG:l+1<h;simp only[aG,true_or,if_true];simp only[EG,hd,hc,zD,hs,fY,y5,HK,zC,fC,b1,HI,pN aG];simp[dN,Nat.add_mul,Nat.add_assoc];have:¬ (l+1<h\/l+1=0):=by omega
  simp only[this,if_false];simp only[EG,Bl,hd,hc,zD,hs,fY,y5,HK,zC,fC,b1,HI,JF aG];simp[bump]
theorem qqy(hd:T.und t=some (.slice e))(hs:cC T e=some sz)(dS:0<sz){d:Nat}(hn:0<n)(dN:off=d*sz)(fY:CL x.s i sz=some row)
  (aU:off+n*sz<=row.length) {vm:Value} (hb:g9 n n lo hi (some vm)=some (l,h,m)) (hm:m<bS):
  let va:=Value.slice (some ⟨i,off,none⟩) n (bS+d)
  mZ T t va lo hi (some vm)=none/\EG T x.s t va lo hi (some vm)=some (.slice (some (cond (Nat.beq m l) ⟨i,off,none⟩ ⟨i,off+l*sz,none⟩)) (h-l) (m-l)):=by
 have hc:Nat.blt (bS+d) bS=false:=JF (by omega);obtain⟨n',rfl⟩:∃q,n=q+1:=⟨n-1,by omega⟩;have y5:bN (bS+d)=d:=by simp[bN]
 have uW:n'+1<=(row.length-off)/sz:=by rw[Nat.le_div_iff_mul_le dS];omega
 obtain⟨b0,b1,b2,b3,b4⟩:=Kd hb;have fk:=(CO b0 uW).1;have HI:Nat.ble (off+m*sz) row.length=true:=Nat.ble_eq_true_of_le (by have:m*sz<=(n'+1)*sz:=Nat.mul_le_mul_right _ b3;omega);refine⟨by simp[mZ,hd,hc,emptyS],?_⟩;have HK:Nat.beq off (d*sz)=true:=by simp[dN]
 have fC:Nat.blt 0 sz=true:=pN dS;simp only[EG,hd,hc,zD,hs,fY,y5,HK,zC,fC,fk,HI,b4 m (zF _),pN hm]
theorem qxh{s:S}{l:List Value}(h:lk s.h i=some (.inl (l,e,sz+2))):CL s i sz=some l:=by simp[CL,h]
theorem qow{s:S}{l:List Value}(h:lk s.h i=some (.inl (l,sz+1,1))):CL s i sz=some l:=by simp[CL,h]
variable{k:Nat}
variable{gS:Nat}
theorem b_{n' c':Nat}(hr:aD x (.sl k off n c) v)(hi:x.Y k=some i)(hc:c'<bS)(hn:n'<=c'):aD x (.sl k gS n' c') (.slice (some ⟨i,gS,none⟩) n' c'):=by
 simp only[aD]at*;exact⟨rfl,hr.2.1,fun b hb=>⟨(hr.2.2 b hb).1,fun _=>⟨i,hi,rfl,hc,hn⟩⟩⟩
theorem h?{st:Nat}(hr:aD x (.ptr k st off) v)(hi:x.Y k=some i):aD x (.ptr k st gS) (.pointer (some ⟨i,gS,none⟩)):=by
 simp only[aD]at*;exact⟨rfl,hr.2.1,fun b hb=>⟨(hr.2.2 b hb).1,fun _=>⟨i,hi,rfl⟩⟩⟩
theorem Im{st n':Nat}{l:List U}{v':Value}(hr:aD x (.vl k st off n) v)(hb:gt x.O.h k=some (.vec l e sz st))(h1:v'.oneCell'=true)(h:IR gS n' v' sz (x.Y k)):aD x (.vl k st gS n') v':=by
 simp only[aD]at*;refine⟨h1,hr.2.1,fun b cQ=>⟨(hr.2.2 b cQ).1,fun _=>?_⟩⟩;rw[hb]at cQ;cases cQ;exact⟨l,e,sz,rfl,h⟩
theorem DO:Nat.blt 0 bS=true:=pN (by simp[bS])
theorem Yp(hb:g9 0 0 lo hi mx=some (l,h,m)):l=0/\h=0/\m=0:=by
 cases mx with
 |none=>obtain⟨_,b2,b3,b4⟩:=PK hb (zF _);omega
 |some vm=>obtain⟨_,b2,b3,b4,_⟩:=Kd hb;omega
theorem V2{t:Bool}{l:List (List U)}(hg:lk x.s.h i=some (.inl (row,e,1)))(hr:gU x sz l (row.drop off))(hh:h<=l.length)(dN:a<h->gS=off+a*sz)
  (ht:t=true->c=h-a/\c<bS) (hc:a<h->(c<bS/\h-a<=c)\/(bS<=c/\e=sz+1/\0<sz/\gS=bN c*sz)):aD x (.isl t (oO l a h)) (.slice (some ⟨i,gS,none⟩) (h-a) c):=by
 have aU:=qve (a:=a) hh;simp only[aD];refine .inr ⟨i,gS,c,by rw[aU],by rw[aU];exact ht,?_⟩;by_cases aG:a<h;have e1:row.drop gS=(row.drop off).drop (a*sz):=by rw[List.drop_drop,dN aG]
 have YL:=z4i (a:=a) (h:=h) hr;rw[<-e1]at YL;refine .inr ⟨row,e,sz,hg,YL,?_⟩;rw[aU];rcases hc aG with hc |⟨c1,c2,c3,c4⟩;exact .inl hc;refine .inr ⟨c1,c2,c3,c4,?_⟩;have:=Xa YL;rw[aU,List.length_drop]at this;have fC:0<(h-a)*sz:=Nat.mul_pos (by omega) c3;omega;exact .inl (List.eq_nil_of_length_eq_zero (by rw[aU];omega))
theorem z1o(hd:T.und t=some (.slice e))(hs:cC T e=some sz){tt:Bool}{l:List (List U)}{u:U}{va:Value}(cH:(l.all fun c=>Nat.beq c.length sz)=true)
  (hb:g9 l.length l.length lo hi mx=some (a,h,m)) (hu:match mx with
   |some _=>m<bS/\u=.isl (Nat.beq m h) (oO l a h)|none=>u=.isl (cond tt (Nat.beq h l.length) false) (oO l a h)) (ha:aD x (.isl tt l) va):qv2 T x t u va lo hi mx:=by
 simp only[aD]at ha;rcases ha with⟨rfl,rfl |⟨r,rfl⟩⟩|⟨i,off,c,rfl,ht,dX⟩;obtain⟨rfl,rfl,rfl⟩:=Yp hb;refine .inl ⟨.slice none 0 0,by simp only[zS]at hb;simp[mZ,hd,hb,hs,DO],?_⟩;rcases mx with _|vm;simp only at hu;subst hu;simp[aD,oO];simp only at hu;rw[hu.2];simp[aD,oO];obtain⟨rfl,rfl,rfl⟩:=Yp hb;refine .inl ⟨.chan (some r),by simp only[zS]at hb;simp[mZ,hd,hb,hs],?_⟩;rcases mx with _|vm;simp only at hu;subst hu;simp[aD,oO];simp only at hu;rw[hu.2];simp[aD,oO];by_cases cW:l=[];subst cW;obtain⟨rfl,rfl,rfl⟩:=Yp hb;simp only[zS]at hb ht;have fin:∀(t':Bool)(gS c':Nat),(t'=true->c'=0)->aD x (.isl t' (oO [] 0 0)) (.slice (some ⟨i,gS,none⟩) 0 c'):=fun t' gS c' h1=>by simp only[aD];exact .inr ⟨i,gS,c',by simp[oO],fun h=>by rw[h1 h];simp[oO,bS],.inl (by simp[oO])⟩
 by_cases hc:c<bS;cases mx with
 |none=>
  simp only[zS]at hu;subst hu;obtain⟨b1,_⟩:=PK hb (Nat.zero_le c);have tD:(cond tt (Nat.beq 0 0) false=true)->c=0:=fun h=>(ht (by cases tt<;>simp_all)).1;cases u5:Nat.beq c 0 with
  |true=>exact .inl ⟨_,by simp only[zS,mZ,hd,pN hc,zC,b1,hs,u5]<;>rfl,fin _ off c tD⟩|false=>exact .inl ⟨_,by simp only[zS,mZ,hd,pN hc,zC,zD,b1,hs,u5]<;>rfl,fin _ _ c tD⟩
 |some vm=>simp only at hu;obtain⟨_,_,_,_,b4⟩:=Kd hb;rw[hu.2];exact .inl ⟨_,by simp only[zS,mZ,hd,pN hc,zC,b4 c (Nat.zero_le _),hs]<;>rfl,fin _ off 0 (fun _=>rfl)⟩
 cases mx with|none=>simp only[zS]at hu;subst hu;exact .inl ⟨_,by simp only[zS,mZ,hd,JF hc,zD,emptyS,hb,hs]<;>rfl,fin _ off c (fun h=>absurd (ht (by cases tt<;>simp_all)).2 hc)⟩|some vm=>simp only at hu;rw[hu.2];exact .inl ⟨_,by simp only[zS,mZ,hd,JF hc,zD,emptyS,hb,hs]<;>rfl,fin _ off 0 (fun _=>rfl)⟩
 rcases dX with dX |⟨row,e',hZ,g1,g2,g3⟩;exact absurd dX cW;have dS:=i? g2 cW cH;subst dS;have fC:0<l.length:=by cases l<;>simp_all
 rcases g3 with⟨hc,jg⟩|⟨hc,he,hz,dN,aU⟩;cases mx with
 |none=>
  simp only at hu;subst hu;obtain⟨b1,b2,b3,b4⟩:=PK hb jg;have tD:(cond tt (Nat.beq h l.length) false=true)->c-a=h-a/\c-a<bS:=fun hh=>by rcases tt with _|_;simp at hh;simp at hh;have:=(ht rfl).1;omega
  cases u5:Nat.beq c a with
  |true=>
   have:c=a:=by simpa[beq_eq]using u5
   exact .inl ⟨_,by simp only[mZ,hd,pN hc,zC,b1,hs,u5]<;>rfl,V2 g1 g2 b3 (fun h1=>by omega) tD (fun h1=>by omega)⟩
  |false=>exact .inl ⟨_,by simp only[mZ,hd,pN hc,zC,zD,b1,hs,u5]<;>rfl,V2 g1 g2 b3 (fun h1=>rfl) tD (fun h1=>.inl (by omega))⟩
 |some vm=>
  simp only at hu;rw[hu.2];obtain⟨b0,b1,b2,b3,b4⟩:=Kd hb;have tD:Nat.beq m h=true->m-a=h-a/\m-a<bS:=fun hh=>by simp at hh;omega
  cases u5:Nat.beq m a with
  |true=>
   have:m=a:=by simpa[beq_eq]using u5
   exact .inl ⟨_,by simp only[mZ,hd,pN hc,zC,b4 c (by omega),hs,u5]<;>rfl,V2 g1 g2 (by omega) (fun h1=>by omega) tD (fun h1=>by omega)⟩
  |false=>exact .inl ⟨_,by simp only[mZ,hd,pN hc,zC,zD,b4 c (by omega),hs,u5]<;>rfl,V2 g1 g2 (by omega) (fun h1=>rfl) tD (fun h1=>.inl (by omega))⟩
 obtain⟨d,rfl⟩:∃d,c=bS+d:=⟨c-bS,by omega⟩;have y5:bN (bS+d)=d:=by simp[bN]
 rw[y5]at dN;subst he;have htt:tt=false:=by rcases tt with _|_;rfl;exact absurd (ht rfl).2 (by omega)
 subst htt;cases mx with
 |none=>simp only[zD]at hu;subst hu;obtain⟨b1,b2,b3,b4⟩:=PK hb (zF _);obtain⟨s1,s2⟩:=qnw hd hs hz (i:=i) (n:=l.length) (d:=d) fC dN (qow g1) aU hb;split at s2;exact .inr (.inl ⟨s1,_,s2,V2 g1 g2 b3 (fun _=>by rw[dN,Nat.add_mul]) (fun h=>by cases h) (fun _=>.inr ⟨by omega,rfl,hz,by simp[bN]⟩)⟩);refine .inr (.inr ⟨s1,s2.1,_,s2.2,?_⟩);have hn:(oO l a h)=[]:=List.eq_nil_of_length_eq_zero (by rw[qve b3];omega);rw[hn];simp only[aD];exact .inr ⟨x.s.nx,0,bS,rfl,(fun h=>by cases h),.inl trivial⟩
 |some vm=>
  simp only at hu;rw[hu.2];obtain⟨b0,b1,b2,b3,b4⟩:=Kd hb;obtain⟨s1,s2⟩:=qqy hd hs hz (i:=i) (n:=l.length) (d:=d) fC dN (qow g1) aU hb hu.1;have tD:Nat.beq m h=true->m-a=h-a/\m-a<bS:=fun hh=>by simp at hh;omega
  cases u5:Nat.beq m a with
  |true=>
   have:m=a:=by simpa[beq_eq]using u5
   rw[u5,zC]at s2;exact .inr (.inl ⟨s1,_,s2,V2 g1 g2 (by omega) (fun h1=>by omega) tD (fun h1=>by omega)⟩)
  |false=>rw[u5,zD]at s2;exact .inr (.inl ⟨s1,_,s2,V2 g1 g2 (by omega) (fun h1=>rfl) tD (fun h1=>.inl (by omega))⟩)
theorem z1p(hx:jZ x){a u:U}{va:Value}(h:OX T x.O t a lo hi mx=some u)(ha:aD x a va):qv2 T x t u va lo hi mx:=by
 unfold OX at h;rcases hd:T.und t with _|d;simp[hd]at h;cases d with
 |string=>
  simp only[hd]at h;cases a with
  |str s=>cases mx with|some _=>simp at h|none=>simp only at h;rcases hb:g9 s.length s.length lo hi none with _|q;simp[hb]at h;obtain⟨l,hh,m⟩:=q;simp only[hb,zA]at h;subst h;simp only[aD]at ha;subst ha;exact .inl ⟨.string ⟨((s.take hh).drop l).toArray⟩,by simp[mZ,hd,hb],by simp[aD,oO]⟩
  |_=>simp at h
 |slice e=>
  simp only[hd]at h;rcases hs:cC T e with _|sz;simp[hs]at h;simp only[hs]at h;cases a with
  |nils=>simp only at h;simp only[aD]at ha;subst ha;rcases hb:g9 0 0 lo hi mx with _|q;simp[hb]at h;obtain⟨l,hh,m⟩:=q;simp only[hb,zA]at h;subst h;obtain⟨rfl,rfl,rfl⟩:=Yp hb;exact .inl ⟨.slice none 0 0,by simp[mZ,hd,hb,hs,DO],by simp[aD]⟩
  |sl k off n c=>
   simp only at h;rcases hl:c7 x.O k 0 with _|_;simp[hl]at h;simp only[hl,zC]at h;rcases hb:g9 n c lo hi mx with _|q;simp[hb]at h;obtain⟨l,hh,m⟩:=q;simp only[hb,zA]at h;subst h;obtain⟨i,lP,rfl,hc,tF⟩:=LG hl ha;obtain⟨_,hmc⟩:=z2y hb;have hhm:=z2z hb tF;cases u5:Nat.beq m l with
   |true=>exact .inl ⟨_,by simp only[mZ,hd,pN hc,zC,hb,hs,u5]<;>rfl,b_ ha lP (by omega) (by omega)⟩|false=>exact .inl ⟨_,by simp only[mZ,hd,pN hc,zC,zD,hb,hs,u5]<;>rfl,b_ ha lP (by omega) (by omega)⟩
  |vl k st off n=>
   simp only at h;rcases hv:xJ x.O k st with _|q;simp[hv]at h;obtain⟨r,e',hZ⟩:=q;obtain⟨hg,hl⟩:=Xt hv;simp only[hv,beq_eq]at h;by_cases hz:hZ=sz;subst hz;simp only[yC,zC]at h;cases mx with
   |some _=>simp at h|none=>
    simp only at h;rcases hb:g9 n n lo hi none with _|q;simp[hb]at h;obtain⟨l,hh,m⟩:=q;simp only[hb]at h;split at h;rename_i aU;simp only[zA]at h;subst h;obtain⟨l0,e0,Hu,N7,sZ⟩:=V4 hl ha;have hgg:(some (B.vec r e' hZ st))=some (.vec l0 e0 Hu st):=hg.symm.trans N7;cases hgg;obtain⟨_,k1,k2,h3⟩:=hx.ok k _ hg;have zero:∀o c,n=0->va=.slice o 0 c->(∀a,o=some a->a.spot=none)->(o=none->c=0)->∃o' c',mZ T t va lo hi none=some (.slice o' 0 c')/\(c=0->c'=0)/\(∀a,o'=some a->a.spot=none)/\(o=none->o'=none)/\(∀a,o=some a->∃a',o'=some a')/\(¬ c<bS->o'=o/\c'=c):=by
     rintro o c rfl rfl tE ho;obtain⟨b1,b2,b3,b4⟩:=PK hb (Nat.zero_le c);obtain rfl:hh=0:=by omega
     obtain rfl:l=0:=by omega
     by_cases hc:c<bS;rcases o with _|a;exact⟨none,c,by simp[mZ,hd,pN hc,b1,hs],by simp,by simp,by simp,by simp,fun hn=>absurd hc hn⟩;rcases u5:Nat.beq c 0 with _|_;exact⟨some ⟨a.block,a.off+0*hZ,none⟩,c,by simp only[mZ,hd,pN hc,b1,hs,u5,zC,zD,Nat.sub_zero],by simp,by simp,by simp,by simp,fun hn=>absurd hc hn⟩;exact⟨some a,c,by simp only[mZ,hd,pN hc,b1,hs,u5,zC,Nat.sub_zero],by simp,by simpa using tE a rfl,by simp,by simp,fun hn=>absurd hc hn⟩;rcases o with _|a;exact absurd (by rw[ho rfl];simp[bS]) hc;obtain rfl:m=0:=by omega
     exact⟨some a,c,by simp only[mZ,hd,JF hc,zD,emptyS,hb,hs],by simp,by simpa using tE a rfl,by simp,by simp,fun _=>⟨rfl,rfl⟩⟩
    have K4:n=0->l=0/\hh=0:=fun Qk=>by obtain⟨b1,b2,b3,b4⟩:=PK hb (zF _);omega
    rcases h3 with⟨V',jP⟩|⟨i,l',e1,e2,e3⟩;rw[jP]at sZ;obtain⟨rfl,rfl,o,rfl,tE⟩:=sZ;obtain⟨rfl,rfl⟩:=K4 rfl;obtain⟨o',c',q1,q2,q3,q4,q5,q6⟩:=zero o 0 rfl rfl tE (fun _=>rfl);rw[q2 rfl]at q1;exact .inl ⟨_,q1,Im ha hg rfl (by rw[jP];exact⟨rfl,rfl,o',rfl,q3⟩)⟩;rw[e1]at sZ;rcases sZ with⟨h0,rfl,a,c,rfl,tE⟩|rfl;obtain⟨rfl,rfl⟩:=K4 rfl;obtain⟨o',c',q1,q2,q3,q4,q5,q6⟩:=zero (some a) c rfl rfl (by simpa using tE) (by simp);obtain⟨a',rfl⟩:=q5 a rfl;exact .inl ⟨_,q1,Im ha hg rfl (by rw[e1];exact .inl ⟨by omega,rfl,a',c',rfl,q3 a' rfl⟩)⟩;by_cases hn:n=0;subst hn;obtain⟨rfl,rfl⟩:=K4 rfl;obtain⟨o',c',q1,q2,q3,q4,q5,q6⟩:=zero (some ⟨i,off*hZ,none⟩) (bS+off) rfl rfl (by simp) (by simp);obtain⟨rfl,rfl⟩:=q6 (by omega);exact .inl ⟨_,q1,Im ha hg rfl (by rw[e1];exact .inr rfl)⟩;have:=qnw hd hs k2 (i:=i) (n:=n) (d:=off) (by omega) rfl (qxh e2) (by rw[<-e3.2,<-Nat.add_mul];exact aU) hb;obtain⟨s1,s2⟩:=this;split at s2;exact .inr (.inl ⟨s1,_,s2,Im ha hg rfl (by rw[e1];exact .inr rfl)⟩);rename_i aG;obtain⟨b1,b2,b3,b4⟩:=PK hb (zF _);refine .inr (.inr ⟨s1,s2.1,_,s2.2,?_⟩);have cQ:=sg ha;have tj:hh-l=0:=by omega
    rw[tj];exact Im (x:=bump x) cQ hg rfl (by show IR _ _ _ _ (x.Y k);rw[e1];exact .inl ⟨by omega,rfl,_,_,rfl,rfl⟩);cases h
   simp[hz]at h
  |isl tt l=>simp only at h;split at h;rename_i cH;rcases hb:g9 l.length l.length lo hi mx with _|q;simp[hb]at h;obtain⟨a,hh,m⟩:=q;simp only[hb]at h;refine z1o hd hs (tt:=tt) cH hb ?_ ha;rcases mx with _|vm;simp only[zA]at h ⊢;exact h.symm;simp only at h ⊢;split at h;rename_i hm;simp only[zA]at h;exact⟨hm,h.symm⟩;cases h;cases h
  |_=>simp at h
 |_=>simp[hd]at h
variable{T:Tb}
variable{x:Cx}
variable{a:U}
variable{u:U}
variable{va:Value}
theorem qu4{st:TypeId}{f:Nat}(h:Kc T x.O st a f=some u)(ha:aD x a va):∃v,Kb T st va f=some v/\aD x u v:=by
 unfold Kc at h;unfold Kb;rcases hd:T.und st with _|d;simp[hd]at h;cases d with
 |struct fs=>
  simp only[hd]at h ⊢;rcases hf:nth fs.toList f with _|fd;simp[hf]at h;simp only[hf]at h ⊢;rcases hs:cC T fd.type with _|n;simp[hs]at h;cases n with
  |zero=>simp[hs]at h|succ n=>
   simp only[hs]at h;cases a with
   |ptr k s off=>simp only at h;rcases hl:c7 x.O k s with _|_;simp[hl]at h;simp only[hl,zC,zA]at h;subst h;obtain⟨i,hi,rfl⟩:=VC hl ha;exact⟨_,rfl,h? ha hi⟩
   |iptr l=>simp only[zA]at h;subst h;simp only[aD]at ha;obtain⟨i,off,row,e,rfl,h2,h3,h4⟩:=ha;refine⟨_,rfl,?_⟩;simp only[aD];exact⟨i,off+fd.offset,row,e,rfl,h2,by rw[<-List.drop_drop];exact h3.drop _,EL h4 _⟩
   |_=>simp at h
 |_=>simp[hd]at h
theorem qzb{st:TypeId}{f:Nat}(h:ll T st a f=some u)(ha:aD x a va):∃v,Iu T st va f=some v/\aD x u v:=by
 unfold ll at h;unfold Iu;rcases hd:T.und st with _|d;simp[hd]at h;cases d with
 |struct fs=>
  simp only[hd]at h ⊢;rcases hf:nth fs.toList f with _|fd;simp[hf]at h;simp only[hf]at h ⊢;cases a with
  |agg cs=>simp only[aD]at ha;obtain⟨vs,rfl,h1,h2,h3⟩:=ha;exact qwh h ⟨h1,h2⟩ h3
  |_=>simp at h
 |_=>simp[hd]at h
theorem L9{i:Int}{n:Nat}(h:0<=i/\i<n):qD i n=true:=by
 unfold qD;cases i with
 |ofNat k=>exact pN (by have:=h.2;simp at this;exact this)|negSucc k=>have:=h.1;omega
variable{t:TypeId}
theorem qu9(hx:jZ x){b:U}{vb:Value}(h:EM T x.O t a b=some u)(ha:aD x a va)(hb:aD x b vb):∃v,Jv T t va vb=some v/\aD x u v:=by
 unfold EM at h;cases b with
 |int k i=>
  simp only[aD]at hb;subst hb;simp only[Jv];simp only at h;rcases hd:T.und t with _|d;simp[hd]at h;cases d with
  |slice e=>
   simp only[hd]at h;rcases hs:cC T e with _|sz;simp[hs]at h;simp only[hs]at h;cases a with
   |sl k off n c=>simp only at h;rcases hl:c7 x.O k 0 with _|_;simp[hl]at h;simp only[hl,zC]at h;split at h;rename_i i9;simp only[zA]at h;subst h;obtain⟨i',hi,rfl,_⟩:=LG hl ha;refine⟨_,by simp only[L9 i9,zC,hs]<;>rfl,?_⟩;obtain⟨b,q1,q2⟩:=Kl hl;simp only[aD]at ha ⊢;exact⟨rfl,ha.2.1,fun b hb=>⟨Nat.zero_le _,fun _=>⟨i',hi,rfl⟩⟩⟩;cases h
   |vl k st off n=>simp only at h;rcases hv:xJ x.O k st with _|q;simp[hv]at h;obtain⟨l,e',hZ⟩:=q;obtain⟨hg,hl⟩:=Xt hv;simp only[hv,beq_eq]at h;by_cases hz:hZ=sz;subst hz;simp only[yC,zC]at h;split at h;rename_i i9;simp only[zA]at h;subst h;obtain⟨i',l0,e0,Hu,l',h1,h2,rfl,h4,h5,h6,h7⟩:=uh hx hl ha (by omega);have:=hg.symm.trans h1;cases this;refine⟨_,by simp only[L9 ⟨i9.1,i9.2.1⟩,zC,hs]<;>rfl,?_⟩;simp only[aD]at ha ⊢;refine⟨rfl,ha.2.1,fun b hb=>⟨(ha.2.2 b hb).1,fun _=>⟨i',h2,rfl⟩⟩⟩;cases h;simp[hz]at h
   |isl tt l=>simp only at h;split at h;rename_i i9;rcases hc:l[i.toNat]? with _|c;simp[hc]at h;simp only[hc,beq_eq]at h;by_cases hz:c.length=sz;simp only[hz,yC,zC,zA]at h;subst h;simp only[aD]at ha;rcases ha with⟨rfl,_⟩|⟨i',off,c',rfl,ht,dX⟩;simp at hc;rcases dX with rfl |⟨row,e',hZ,g1,g2,g3⟩;simp at hc;obtain⟨q1,q2,q3⟩:=Xb g2 _ _ hc;refine⟨_,by simp only[L9 i9,zC,hs]<;>rfl,?_⟩;simp only[aD];refine⟨i',off+i.toNat*sz,row,e',rfl,g1,?_,q2⟩;rw[List.drop_drop]at q3;rw[<-hz,q1];exact q3;simp[hz]at h;cases h
   |_=>simp at h
  |array n e=>
   simp only[hd]at h;rcases hs:cC T e with _|sz;simp[hs]at h;simp only[hs]at h;cases a with
   |ptr k st off=>simp only at h;rcases hl:c7 x.O k st with _|_;simp[hl]at h;simp only[hl,zC]at h;split at h;rename_i i9;simp only[zA]at h;subst h;obtain⟨i',hi,rfl⟩:=VC hl ha;exact⟨_,by simp only[L9 i9,zC,hs]<;>rfl,h? ha hi⟩;cases h
   |iptr l=>simp only at h;split at h;rename_i i9;simp only[zA]at h;subst h;simp only[aD]at ha;obtain⟨i',off,row,e',rfl,h2,h3,h4⟩:=ha;refine⟨_,by simp only[L9 i9,zC,hs]<;>rfl,?_⟩;simp only[aD];exact⟨i',_,row,e',rfl,h2,by rw[<-List.drop_drop];exact h3.drop _,EL h4 _⟩;cases h
   |_=>simp at h
  |_=>simp[hd]at h
 |_=>simp at h
theorem qzu{b:U}{vb:Value}(h:Vz T t a b=some u)(ha:aD x a va)(hb:aD x b vb):∃v,UV T t va vb=some v/\aD x u v:=by
 unfold Vz at h;cases a with
 |agg cs=>
  simp only at h;cases b with
  |int k i=>
   simp only[aD]at ha hb;subst hb;obtain⟨vs,rfl,h1,h2,h3⟩:=ha;simp only at h;rcases hd:T.und t with _|d;simp[hd]at h;cases d with
   |array n e=>simp only[hd]at h;split at h;rename_i i9;rcases hs:cC T e with _|sz;simp[hs]at h;simp only[hs]at h;obtain⟨v,q1,q2⟩:=qwh h ⟨h1,h2⟩ h3;exact⟨v,by simp only[UV,hd,L9 i9,zC,hs];exact q1,q2⟩;cases h
   |_=>simp[hd]at h
  |_=>simp at h
 |_=>exact RI h ha hb
theorem z74(hx:jZ x)(h:lenU T x.O t a=some u)(ha:aD x a va):
  ∃ v,(CX T t va=some v\/(CX T t va=none/\∃ kt et r,T.und t=some (.map kt et)/\va = .map r/\(match r with
     |none=>some (Value.int .i64 0)|some r=>match lk x.s.h r with
      |some (.inr (es,_))=>some (.int .i64 es.length)|_=>none)=some v))/\aD x u v:=by
 unfold lenU at h;unfold CX;rcases hd:T.und t with _|d;simp[hd]at h;cases d with
 |string=>
  simp only[hd]at h ⊢;cases a with
  |str s=>simp only[zA]at h;subst h;simp only[aD]at ha;subst ha;exact⟨_,.inl rfl,by simp[aD]⟩|_=>simp at h
 |slice e=>
  simp only[hd]at h ⊢;cases a with
  |nils=>simp only[zA]at h;subst h;simp only[aD]at ha;subst ha;exact⟨_,.inl rfl,by simp[aD]⟩|sl k off n c=>simp only at h;rcases hl:c7 x.O k 0 with _|_;simp[hl]at h;simp only[hl,zC,zA]at h;subst h;obtain⟨i,_,rfl,_⟩:=LG hl ha;exact⟨_,.inl rfl,by simp[aD]⟩
  |vl k st off n=>simp only at h;rcases hl:c7 x.O k st with _|_;simp[hl]at h;simp only[hl,zC,zA]at h;subst h;obtain⟨_,_,_,_,hv⟩:=V4 hl ha;obtain⟨o,c,rfl⟩:=vn hv;exact⟨_,.inl rfl,by simp[aD]⟩
  |isl tt l=>simp only[zA]at h;subst h;simp only[aD]at ha;rcases ha with⟨rfl,rfl |⟨_,rfl⟩⟩|⟨_,_,_,rfl,_⟩<;>exact⟨_,.inl rfl,by simp[aD]⟩
  |_=>simp at h
 |array n e=>simp only[hd]at h ⊢;cases a<;>simp at h<;>subst h<;>exact⟨_,.inl rfl,by simp[aD]⟩|map kt et=>
  simp only[hd]at h ⊢;cases a with
  |nilm=>simp only[zA]at h;subst h;simp only[aD]at ha;subst ha;exact⟨_,.inr ⟨trivial,kt,et,none,rfl,rfl,rfl⟩,by simp[aD]⟩|map k=>
   simp only at h;rcases hg:gt x.O.h k with _|b;simp[hg]at h;cases b with
   |map es cl=>simp only[hg,zA]at h;subst h;obtain⟨i,hi,rfl⟩:=Xd (x:=x) (by simp[c7,hg,B.st]) ha;obtain⟨_,i',es',e1,e2,e3⟩:=hx.ok k _ hg;rw[hi]at e1;cases e1;exact⟨.int .i64 es'.length,.inr ⟨trivial,kt,et,some i,rfl,rfl,by simp[e2]⟩,by simp[aD,e3.1]⟩
   |_=>simp[hg]at h
  |_=>simp at h
 |_=>simp[hd]at h
theorem z6n(hx:jZ x)(h:ZY T x.O t a=some u)(ha:aD x a va):∃v,I9 T t va=some v/\aD x u v:=by
 unfold ZY at h;unfold I9;rcases hd:T.und t with _|d;simp[hd]at h;cases d with
 |slice e=>
  simp only[hd]at h ⊢;cases a with
  |nils=>simp only[zA]at h;subst h;simp only[aD]at ha;subst ha;exact⟨_,rfl,by simp[aD]⟩|sl k off n c=>simp only at h;rcases hl:c7 x.O k 0 with _|_;simp[hl]at h;simp only[hl,zC,zA]at h;subst h;obtain⟨i,_,rfl,hc,_⟩:=LG hl ha;have lQ:Nat.blt c bS=true:=Nat.ble_eq_true_of_le hc;exact⟨.int .i64 c,by simp only[lQ,zC],by simp[aD]⟩
  |_=>simp at h
 |_=>simp[hd]at h
theorem z4d(hx:jZ x){tm:List U}{tv:List Value}(ht:bB x tm tv){op:Op}(h:i8 T x.O tm op=some u):oY T x tv op u x.O:=by
 have one:∀v,hH T tv op=some v->aD x u v->oY T x tv op u x.O:=fun v h1 h2=>oY.same hx (z45 h1) h2;unfold i8 at h;cases op with
 |move o=>obtain⟨v,h1,h2⟩:=iF ht h;exact one v (by simp[hH,h1]) h2
 |assign o=>obtain⟨v,h1,h2⟩:=iF ht h;exact one v (by simp[hH,h1]) h2
 |pick c a b=>
  simp only at h;rcases hc:c6 tm c with _|cu;simp[hc]at h;obtain⟨cv,c1,c2⟩:=iF ht hc;cases cu with
  |bool t=>
   simp only[aD]at c2;subst c2;cases t with
   |true=>simp only[hc]at h;obtain⟨v,h1,h2⟩:=iF ht h;exact one v (by simp[hH,c1,h1]) h2
   |false=>simp only[hc]at h;obtain⟨v,h1,h2⟩:=iF ht h;exact one v (by simp[hH,c1,h1]) h2
  |_=>simp[hc]at h
 |build t ps=>simp only at h;rcases hp:xR tm ps.toList with _|qs;simp[hp]at h;simp only[hp]at h;obtain⟨vs,h1,h2⟩:=pn ht hp;obtain⟨v,h3,h4⟩:=qyq h h2;exact one v (by simp[hH,h1,h3]) h4
 |nilCheck o=>
  simp only at h;rcases ho:c6 tm o with _|a;simp[ho]at h;obtain⟨va,a1,a2⟩:=iF ht ho;cases a with
  |ptr k st off=>simp only[ho]at h;rcases hl:c7 x.O k st with _|_;simp[hl]at h;simp only[hl,zC,zA]at h;subst h;obtain⟨i,hi,rfl⟩:=VC hl a2;exact one _ (by simp[hH,a1]) a2
  |iptr l=>simp only[ho,zA]at h;subst h;have a3:=a2;simp only[aD]at a2;obtain⟨i,off,row,e,rfl,_⟩:=a2;exact one _ (by simp[hH,a1]) a3
  |fn f p q=>
   cases f with
   |func g=>simp only[ho,zA]at h;subst h;have a3:=a2;simp only[aD]at a2;obtain⟨i,off,rfl,_⟩:=a2;exact one _ (by simp[hH,a1]) a3
   |_=>simp[ho]at h
  |_=>simp[ho]at h
 |binOp o t a b ty=>simp only at h;rcases ha:c6 tm a with _|au;simp[ha]at h;rcases hb:c6 tm b with _|bu;simp[ha,hb]at h;simp only[ha,hb]at h;obtain⟨va,a1,a2⟩:=iF ht ha;obtain⟨vb,b1,b2⟩:=iF ht hb;obtain⟨v,h1,h2⟩:=z6h hx h a2 b2;exact one v (by simp[hH,a1,b1,h1]) h2
 |unOp o t a=>simp only at h;rcases ha:c6 tm a with _|au;simp[ha]at h;simp only[ha]at h;obtain⟨va,a1,a2⟩:=iF ht ha;obtain⟨v,h1,h2⟩:=RJ h a2;exact one v (by simp[hH,a1,h1]) h2
 |convert s d a=>simp only at h;rcases ha:c6 tm a with _|au;simp[ha]at h;simp only[ha]at h;obtain⟨va,a1,a2⟩:=iF ht ha;obtain⟨v,h1,h2⟩:=RJ h a2;exact one v (by simp[hH,a1,h1]) h2
 |makeFunc f a b=>simp only at h;rcases ha:lZ tm a.toList with _|au;simp[ha]at h;rcases hb:lZ tm b.toList with _|bu;simp[ha,hb]at h;simp only[ha,hb,zA]at h;subst h;obtain⟨va,a1,a2⟩:=LP ht ha;obtain⟨vb,b1,b2⟩:=LP ht hb;exact one _ (by simp[hH,a1,b1]<;>rfl) (by simp only[aD];exact⟨va,vb,rfl,a2.1,a2.2,b2.1,b2.2⟩)
 |slice t a lo hi mx=>simp only at h;rcases ha:c6 tm a with _|au;simp[ha]at h;rcases h1:vI tm lo with _|lo';simp[ha,h1]at h;rcases h2:vI tm hi with _|lP;simp[ha,h1,h2]at h;rcases h3:vI tm mx with _|mx';simp[ha,h1,h2,h3]at h;simp only[ha,h1,h2,h3]at h;obtain⟨va,a1,a2⟩:=iF ht ha;have e1:=po ht h1;have e2:=po ht h2;have e3:=po ht h3;rcases z1p hx h a2 with⟨v,s1,s2⟩|⟨s0,v,s1,s2⟩|⟨s0,s1,v,s2,s3⟩;exact one v (by simp[hH,a1,e1,e2,e3,s1]) s2;exact oY.same hx (Jt (by simp[hH,a1,e1,e2,e3,s0]) (by simp[mX,a1,e1,e2,e3,s1])) s2;exact⟨v,bump x,qwa (by simp[hH,a1,e1,e2,e3,s0]) (by simp[mX,a1,e1,e2,e3,s1]) (by simp[rX,a1,e1,e2,e3,s2]),rfl,s3,z32 hx⟩
 |fieldAddr t a f=>simp only at h;rcases ha:c6 tm a with _|au;simp[ha]at h;simp only[ha]at h;obtain⟨va,a1,a2⟩:=iF ht ha;obtain⟨v,h1,h2⟩:=qu4 h a2;exact one v (by simp[hH,a1,h1]) h2
 |field t a f=>simp only at h;rcases ha:c6 tm a with _|au;simp[ha]at h;simp only[ha]at h;obtain⟨va,a1,a2⟩:=iF ht ha;obtain⟨v,h1,h2⟩:=qzb h a2;exact one v (by simp[hH,a1,h1]) h2
 |indexAddr t a b=>simp only at h;rcases ha:c6 tm a with _|au;simp[ha]at h;rcases hb:c6 tm b with _|bu;simp[ha,hb]at h;simp only[ha,hb]at h;obtain⟨va,a1,a2⟩:=iF ht ha;obtain⟨vb,b1,b2⟩:=iF ht hb;obtain⟨v,h1,h2⟩:=qu9 hx h a2 b2;exact one v (by simp[hH,a1,b1,h1]) h2
 |index t a b=>simp only at h;rcases ha:c6 tm a with _|au;simp[ha]at h;rcases hb:c6 tm b with _|bu;simp[ha,hb]at h;simp only[ha,hb]at h;obtain⟨va,a1,a2⟩:=iF ht ha;obtain⟨vb,b1,b2⟩:=iF ht hb;obtain⟨v,h1,h2⟩:=qzu h a2 b2;exact one v (by simp[hH,a1,b1,h1]) h2
 |extract a i=>
  simp only at h;rcases ha:c6 tm a with _|au;simp[ha]at h;simp only[ha]at h;obtain⟨va,a1,a2⟩:=iF ht ha;cases au with
  |tup l=>simp only[aD]at a2;obtain⟨vs,rfl,q1,q2⟩:=a2;simp only[Xh,iQ]at h;obtain⟨v,h1,h2⟩:=(show bB x l vs from⟨q1,q2⟩).get h;exact one v (by simp[hH,a1,Cl,iQ,h1]) h2
  |_=>simp[Xh]at h
 |call c=>
  simp only at h;obtain⟨callee,args,ats⟩:=c;cases callee with
  |builtin b=>
   cases b with
   |len=>
    simp only at h;rcases ha:lZ tm args.toList with _|us;simp[ha]at h;obtain⟨vs,a1,a2⟩:=LP ht ha;rcases tJ:ats.toList with _|⟨t,ts⟩;simp[ha,tJ]at h;rcases us with _|⟨a,l⟩;simp[ha]at h;cases l with
    |cons _ _=>simp[ha]at h|nil=>obtain⟨va,tN,rfl,r1,r2⟩:=a2.inv;rw[r2.nil_inv]at a1;simp only[ha,tJ]at h;obtain⟨v,q1,q2⟩:=z74 hx h r1;rcases q1 with q1 |⟨q0,kt,et,r,hd,rfl,q1⟩;exact one v (by simp[hH,a1,tJ,q1]) q2;refine oY.same hx (Jt (by simp[hH,a1,tJ,q0]) ?_) q2;rcases r with _|r;simp only[mX,a1,tJ,hd];exact q1;simp only[mX,a1,tJ,hd];exact q1
   |cap=>
    simp only at h;rcases ha:lZ tm args.toList with _|us;simp[ha]at h;obtain⟨vs,a1,a2⟩:=LP ht ha;rcases tJ:ats.toList with _|⟨t,ts⟩;simp[ha,tJ]at h;rcases us with _|⟨a,l⟩;simp[ha]at h;cases l with
    |cons _ _=>simp[ha]at h|nil=>obtain⟨va,tN,rfl,r1,r2⟩:=a2.inv;rw[r2.nil_inv]at a1;simp only[ha,tJ]at h;obtain⟨v,q1,q2⟩:=z6n hx h r1;exact one v (by simp[hH,a1,tJ,q1]) q2
   |max=>simp only at h;rcases ha:lZ tm args.toList with _|us;simp[ha]at h;obtain⟨vs,a1,a2⟩:=LP ht ha;rcases us with _|⟨a,l⟩;simp[ha]at h;obtain⟨va,tN,rfl,r1,r2⟩:=a2.inv;simp only[ha]at h;rcases h1:toV a with _|v1;simp[h1]at h;rcases h2:eL l with _|v2;simp[h1,h2]at h;simp only[h1,h2]at h;have e1:=(xT a v1 h1 x va).1 r1;have e2:=(EK l v2 h2 x tN).1 r2;subst e1;subst e2;rcases h3:xN UN va tN with _|r;simp[h3]at h;simp only[h3]at h;exact one r (by simp[hH,a1,h3]) ((L5 r u h).2 x)
   |min=>simp only at h;rcases ha:lZ tm args.toList with _|us;simp[ha]at h;obtain⟨vs,a1,a2⟩:=LP ht ha;rcases us with _|⟨a,l⟩;simp[ha]at h;obtain⟨va,tN,rfl,r1,r2⟩:=a2.inv;simp only[ha]at h;rcases h1:toV a with _|v1;simp[h1]at h;rcases h2:eL l with _|v2;simp[h1,h2]at h;simp only[h1,h2]at h;have e1:=(xT a v1 h1 x va).1 r1;have e2:=(EK l v2 h2 x tN).1 r2;subst e1;subst e2;rcases h3:xN OT va tN with _|r;simp[h3]at h;simp only[h3]at h;exact one r (by simp[hH,a1,h3]) ((L5 r u h).2 x)
   |_=>simp at h
  |_=>simp at h
 |_=>simp at h
theorem Jz{T:Tb}{x:Cx}{kt:TypeId}{k:Value}:∀{es:List ME}{vs:List MapEntry}(i:Nat){r:Option (Nat×U)},rZ x es vs->yN T kt k es i=some r->
  (r=none/\pM T kt k vs i=some none)\/∃j u v,r=some (j,u)/\pM T kt k vs i=some (some (j,v))/\aD x u v/\i<=j/\∃e e',es[j-i]? = some e/\e.val=u/\vs[j-i]? = some e'/\aD x e.key e'.key/\e'.born=e.born/\e'.val=v
 |[],vs,i,r,hm,h=>by
  simp only[yN,zA]at h;subst h;have:vs=[]:=by have:=hm.1;simpa using this.symm
  subst this;exact .inl ⟨rfl,rfl⟩
 |e::es,[],i,r,hm,h=>by have:=hm.1;simp at this
 |e::es,e'::vs,i,r,hm,h=>by
  obtain⟨v0,q0,q1,q2,q3⟩:=hm.2 0 e rfl;simp at q0;subst q0;have eG:rZ x es vs:=⟨by have:=hm.1;simpa using this,fun j d hd=>by simpa using hm.2 (j+1) d (by simpa using hd)⟩;simp only[yN]at h;rcases hk:toV e.key with _|k';simp[hk]at h;simp only[hk]at h;have ek:=(xT _ _ hk x _).1 q1;rcases he:eqv T 50 kt k k' with _|b;simp[he]at h;cases b with
  |true=>simp only[he,zA]at h;subst h;exact .inr ⟨i,e.val,e'.val,rfl,by simp[pM,ek,he],q2,zF _,e,e',by simp,rfl,by simp,q1,q3,rfl⟩|false=>simp only[he]at h;rcases Jz (i+1) eG h with⟨h1,h2⟩|⟨j,u,v,h1,h2,h3,h4,d,d',h5,h6,h7,h8⟩;exact .inl ⟨h1,by simp[pM,ek,he,h2]⟩;refine .inr ⟨j,u,v,h1,by simp[pM,ek,he,h2],h3,by omega,d,d',?_,h6,?_,h8⟩;rw[show j-i=(j-(i+1))+1 by omega];simpa using h5;rw[show j-i=(j-(i+1))+1 by omega];simpa using h7
theorem qvz{l:List U}{off:Nat}{lv:List Value}(h:EB T t l off=some u)(hl:cD x l lv)(hk:okL l=true):
  ∃v,(match T.und t with
    |none=>none|some d=>cond (qA d) (match cC T t with
      |some n=>match v8 lv off n with
       |some cs=>some (.agg cs.toArray)|none=>none
      |none=>none) (nth lv off))=some v/\aD x u v:=by
 unfold EB at h;rcases hd:T.und t with _|d;simp[hd]at h;simp only[hd]at h ⊢;cases ha:qA d with
 |true=>
  simp only[ha,zC]at h ⊢;rcases hs:cC T t with _|n;simp[hs]at h;simp only[hs]at h ⊢;rcases hg:jX l off n with _|cs;simp[hg]at h;simp only[hg,zA]at h;subst h;obtain⟨h1,rfl⟩:=PO hg;have aU:=cD.len hl;rw[Il (by omega)];refine⟨_,rfl,?_⟩;simp only[aD];have:=(hl.drop off).takeE;have e1:bB x ((l.drop off).take n) ((lv.drop off).take n):=by refine bB.mk' (by simp;omega) fun i u hu=>?_;rw[List.getElem?_take]at hu ⊢;split at hu;rename_i aG;simp only[aG,if_true];exact(G5 x _ _).1 (hl.drop off) i u hu;cases hu
  exact⟨_,rfl,e1.1,e1.2,LI (EL hk _) _⟩
 |false=>simp only[ha,zD,iQ]at h ⊢;exact(G5 x _ _).1 hl _ _ h
theorem ql4(hx:jZ x){k st:Nat}{l:List U}(h:cellsOf x.O k st=some l){off:Nat}{v:Value}(hr:aD x (.ptr k st off) v):
  ∃i lv e md,x.Y k=some i/\v=.pointer (some ⟨i,off,none⟩)/\lk x.s.h i=some (.inl (lv,e,md))/\md≠1/\bB x l lv/\okL l=true/\
   ((md=0/\gt x.O.h k=some (.row l e))\/(∃sz,md=sz+2/\0<sz/\gt x.O.h k=some (.vec l e sz st))):=by
 unfold cellsOf at h;rcases hg:gt x.O.h k with _|b;simp[hg]at h;cases b with
 |row l' e=>simp only[hg,beq_eq]at h;by_cases c8:0=st;subst c8;simp at h;subst h;obtain⟨i,hi,rfl⟩:=VC (x:=x) (by simp[c7,hg,B.st]) hr;obtain⟨_,k1,i',lv,e1,e2,e3⟩:=hx.ok k _ hg;rw[hi]at e1;cases e1;exact⟨i,lv,e,0,hi,rfl,e2,by omega,e3,k1,.inl ⟨rfl,rfl⟩⟩;simp[c8]at h
 |vec l' e sz cT=>simp only[hg,beq_eq]at h;by_cases c8:cT=st;subst c8;simp at h;subst h;obtain⟨i,hi,rfl⟩:=VC (x:=x) (by simp[c7,hg,B.st]) hr;obtain⟨_,k1,k2,h3⟩:=hx.ok k _ hg;rcases h3 with⟨h4,h5⟩|⟨i',lv,e1,e2,e3⟩;rw[hi]at h5;cases h5;rw[hi]at e1;cases e1;exact⟨i,lv,e,sz+2,hi,rfl,e2,by omega,e3,k1,.inr ⟨sz,rfl,k2,rfl⟩⟩;simp[c8]at h
 |map es cl=>simp[hg]at h
theorem qwn(hx:jZ x){tm:List U}{tv:List Value}(ht:bB x tm tv){op:Op}(h:pL T x.O tm op=some u):oY T x tv op u x.O:=by
 unfold pL at h;cases op with
 |load t o=>
  simp only at h;rcases ho:c6 tm o with _|a;simp[ho]at h;obtain⟨va,a1,a2⟩:=iF ht ho;cases a with
  |ptr k st off=>simp only[ho]at h;rcases hc:cellsOf x.O k st with _|l;simp[hc]at h;simp only[hc]at h;obtain⟨i,lv,e,md,q1,rfl,q2,_,q3,q4,_⟩:=ql4 hx hc a2;obtain⟨v,r1,r2⟩:=qvz h q3.1 q4;exact oY.same hx (Jt (by simp[hH]) (by simp only[mX,a1,q2];exact r1)) r2
  |iptr l=>
   simp only[ho]at h;simp only[aD]at a2;obtain⟨i,off,row,e,rfl,g1,g2,g3⟩:=a2;obtain⟨v,r1,r2⟩:=qvz h g2 g3;refine oY.same hx (Jt (by simp[hH]) (v:=v) ?_) r2;simp only[mX,a1,g1];rcases hd:T.und t with _|d;simp[hd]at r1;simp only[hd]at r1 ⊢;cases ha:qA d with
   |true=>simp only[ha,zC]at r1 ⊢;rcases hs:cC T t with _|n;simp[hs]at r1;simp only[hs,v8,List.drop_drop,Nat.add_zero]at r1 ⊢;exact r1
   |false=>simp only[ha,zD,iQ,List.getElem?_drop,Nat.add_zero]at r1 ⊢;exact r1
  |_=>simp[ho]at h
 |lookup t a b ok=>
  simp only at h;rcases hd:T.und t with _|d;simp[hd]at h;cases d with
  |map kt et=>
   rcases ha:c6 tm a with _|m;simp[hd,ha]at h;rcases hb:c6 tm b with _|ku;simp[hd,ha,hb]at h;simp only[hd,ha,hb]at h;obtain⟨va,a1,a2⟩:=iF ht ha;obtain⟨vb,b1,b2⟩:=iF ht hb;rcases hk:toV ku with _|kv;simp[hk]at h;simp only[hk]at h;have ekv:=(xT _ _ hk x vb).1 b2;subst ekv;rcases tH:o6 T 50 kt vb with _|_;simp[tH]at h;simp only[tH,zC]at h;have key:∀ (es:List ME) (vs:List MapEntry),(va = .map none/\vs=[]\/∃ i cl,va = .map (some i)/\lk x.s.h i=some (.inr (vs,cl)))->rZ x es vs->(match yN T kt vb es 0 with
      |none=>none|some (some (_,v))=>some (cond ok (.tup [v,.bool true]) v)
      |some none=>match T.inf et with
       |some (_,_,z)=>(match iH z with
        |some zu=>some (cond ok (.tup [zu,.bool false]) zu)|none=>none)
       |none=>none)=some u->oY T x tv (.lookup t a b ok) u x.O:=by
    intro es vs e1 e3 h;have fin:∀v,mX T tv x.s (.lookup t a b ok)=some v->aD x u v->oY T x tv (.lookup t a b ok) u x.O:=fun v h1 h2=>oY.same hx (Jt (by simp[hH]) h1) h2;have FO:∀(p:U)(q:Value)(bb:Bool),aD x p q->aD x (cond ok (.tup [p,.bool bb]) p) (cond ok (.tuple #[q,.bool bb]) q):=fun p q bb R1=>by rcases ok with _|_;exact R1;simp only[zC,aD];exact⟨[q,.bool bb],rfl,by simp[cD,R1,aD],rfl⟩
    rcases hf:yN T kt vb es 0 with _|r';simp[hf]at h;rcases Jz 0 e3 hf with⟨rfl,h2⟩|⟨j,w,v,rfl,h2,h3,_⟩;simp only[hf]at h;rcases hi:T.inf et with _|q;simp[hi]at h;obtain⟨q1,q2,z⟩:=q;simp only[hi]at h;rcases hz:iH z with _|zu;simp[hz]at h;simp only[hz,zA]at h;subst h;have qS:mX T tv x.s (.lookup t a b ok)=some (cond ok (.tuple #[z,.bool false]) z):=by rcases e1 with⟨rfl,rfl⟩|⟨i,cl,rfl,e1⟩;simp only[mX,hd,a1,b1,tH,zC,h2,hi];simp only[mX,hd,a1,b1,tH,zC,e1,h2,hi]
    exact fin _ qS (FO _ _ _ ((L5 _ _ hz).2 x));simp only[hf,zA]at h;subst h;have qS:mX T tv x.s (.lookup t a b ok)=some (cond ok (.tuple #[v,.bool true]) v):=by rcases e1 with⟨rfl,rfl⟩|⟨i,cl,rfl,e1⟩;simp only[mX,hd,a1,b1,tH,zC,h2];simp only[mX,hd,a1,b1,tH,zC,e1,h2]
    exact fin _ qS (FO _ _ _ h3)
   cases m with
   |nilm=>simp only[aD]at a2;exact key [] [] (.inl ⟨a2,rfl⟩) ⟨rfl,by simp⟩ h|map r=>
    simp only at h;rcases hg:gt x.O.h r with _|bb;simp[hg]at h;cases bb with
    |map es cl=>simp only[hg]at h;obtain⟨i,hi,rfl⟩:=Xd (x:=x) (by simp[c7,hg,B.st]) a2;obtain⟨_,i',es',e1,e2,e3⟩:=hx.ok r _ hg;rw[hi]at e1;cases e1;exact key es es' (.inr ⟨i,cl,rfl,e2⟩) e3 h
    |_=>simp[hg]at h
   |_=>simp at h
  |_=>simp[hd]at h
 |_=>simp at h
variable{x:Cx}
variable{k:Nat}
variable{b:B}
theorem nI.mono{y:Cx}(h:nI x k b)(hm:Mo x.O.nx x y)(jP:y.Y k=x.Y k)(hl:∀i c,x.Y k=some i->lk x.s.h i=some c->lk y.s.h i=some c):nI y k b:=by
 have relm:∀{es:List ME}{es':List MapEntry},rZ x es es'->rZ y es es':=fun{es es'} e3=>⟨e3.1,fun j e he=>by obtain⟨v,q1,q2,q3,q4⟩:=e3.2 j e he;exact⟨v,q1,hm.ke _ _ (aD.bel _ _ q2) q2,hm.ke _ _ (aD.bel _ _ q3) q3,q4⟩⟩;cases b with
 |row l e=>obtain⟨k1,i,l',e1,e2,e3⟩:=h;exact⟨k1,i,l',by rw[jP,e1],hl _ _ e1 e2,hm.ke.E e3.bel e3⟩
 |vec l e sz st=>obtain⟨k1,k2,h3⟩:=h;refine⟨k1,k2,?_⟩;rcases h3 with⟨h3,h4⟩|⟨i,l',e1,e2,e3⟩;exact .inl ⟨h3,by rw[jP,h4]⟩;exact .inr ⟨i,l',by rw[jP,e1],hl _ _ e1 e2,hm.ke.E e3.bel e3⟩
 |map es cl=>obtain⟨i,es',e1,e2,e3⟩:=h;exact⟨i,es',by rw[jP,e1],hl _ _ e1 e2,relm e3⟩
theorem nI.not1{i:Nat}(h:nI x k b)(hi:x.Y k=some i){row:List Value}{e:TypeId}:lk x.s.h i≠some (.inl (row,e,1)):=by
 intro hl;cases b with
 |row l e'=>obtain⟨_,i',l',e1,e2,_⟩:=h;rw[hi]at e1;cases e1;rw[hl]at e2;cases e2
 |vec l e' sz st=>obtain⟨_,_,h3⟩:=h;rcases h3 with⟨_,h4⟩|⟨i',l',e1,e2,_⟩;rw[hi]at h4;cases h4;rw[hi]at e1;cases e1;rw[hl]at e2;cases e2
 |map es cl=>obtain⟨i',es',e1,e2,_⟩:=h;rw[hi]at e1;cases e1;rw[hl]at e2;cases e2
theorem step1{y:Cx}(hx:jZ x)(K:Nat)(bK:B)(hn:x.O.nx<=y.O.nx)(hK:K<y.O.nx)(uP:∀k,k≠K->gt y.O.h k=gt x.O.h k/\y.Y k=x.Y k)(gY:gt y.O.h K=some bK)
  (mN:(∃b0,gt x.O.h K=some b0/\b0.st<=bK.st/\(b0.st=bK.st->y.Y K=x.Y K/\∀l e sz st,b0=.vec l e sz st->∃l',bK=.vec l' e sz st))\/(gt x.O.h K=none/\x.O.nx<=K))
  (wK:∀i b,lk x.s.h i=some b->(∀c,gt x.O.h K=some c->x.Y K≠some i)->lk y.s.h i=some b)
  (rA:∀i,y.Y K=some i->(∃c,gt x.O.h K=some c/\x.Y K=some i)\/x.s.nx<=i) (gN:∀i b,lk y.s.h i=some b->i<y.s.nx) (hB:Mo x.O.nx x y->nI y K bK):Out x y:=by
 have fM:Mo x.O.nx x y:=by refine⟨fun k hk _=>⟨by omega,fun b' cQ=>?_⟩,fun i row e hl=>wK i _ hl fun c hc he=>(hx.ok K c hc).2.not1 he hl⟩;by_cases e:k=K;subst e;rw[gY]at cQ;cases cQ;rcases mN with⟨b0,h1,h2,h3⟩|⟨_,h2⟩;exact⟨b0,h1,h2,h3⟩;omega;obtain⟨h1,h2⟩:=uP k e;exact⟨b',by rw[<-h1,cQ],zF _,fun _=>⟨h2,fun l e sz st h=>⟨l,h⟩⟩⟩
 have cW:∀k b i c,k≠K->gt x.O.h k=some b->x.Y k=some i->gt x.O.h K=some c->x.Y K≠some i:=fun k b i c hk hb hi hc he=>hk (hx.inj k K b c i hb hc hi he);refine⟨⟨fun k b hb=>?_,fun k k' b b' i hb cQ hi lP=>?_,gN⟩,fM,fun F J i b hb=>?_⟩;by_cases e:k=K;subst e;rw[gY]at hb;cases hb;exact⟨hK,hB fM⟩;obtain⟨h1,h2⟩:=uP k e;rw[h1]at hb;obtain⟨h3,h4⟩:=hx.ok k b hb;exact⟨by omega,h4.mono fM h2 fun i c hi hl=>wK i c hl fun d hd=>cW k b i d e hb hi hd⟩;have own:∀k b i,k≠K->gt y.O.h k=some b->y.Y k=some i->gt x.O.h k=some b/\x.Y k=some i/\i<x.s.nx:=fun k b i e hb hi=>by
  obtain⟨h1,h2⟩:=uP k e;rw[h1]at hb;rw[h2]at hi;refine⟨hb,hi,?_⟩;have:=(hx.ok k b hb).2;cases b with
  |row l e=>obtain⟨_,i',l',e1,e2,_⟩:=this;rw[hi]at e1;cases e1;exact hx.bd _ _ e2
  |vec l e' sz st=>obtain⟨_,_,h3⟩:=this;rcases h3 with⟨_,h4⟩|⟨i',l',e1,e2,_⟩;rw[hi]at h4;cases h4;rw[hi]at e1;cases e1;exact hx.bd _ _ e2
  |map es cl=>obtain⟨i',es',e1,e2,_⟩:=this;rw[hi]at e1;cases e1;exact hx.bd _ _ e2
 by_cases e:k=K;by_cases e':k'=K;rw[e,e'];exfalso;subst e;obtain⟨q1,q2,q3⟩:=own k' b' i e' cQ lP;rcases rA i hi with⟨c,hc,lQ⟩|HD;exact e' (hx.inj k' k b' c i q1 hc q2 lQ);omega;by_cases e':k'=K;exfalso;subst e';obtain⟨q1,q2,q3⟩:=own k b i e hb hi;rcases rA i lP with⟨c,hc,lQ⟩|HD;exact e (hx.inj k k' b c i q1 hc q2 lQ);omega;obtain⟨q1,q2,_⟩:=own k b i e hb hi;obtain⟨q3,q4,_⟩:=own k' b' i e' cQ lP;exact hx.inj k k' b b' i q1 q3 q2 q4;obtain⟨h1,h2⟩:=J i b hb;refine⟨wK i b h1 fun c hc=>h2 K c hc,fun k c hc hi=>?_⟩;by_cases e:k=K;subst e;rcases rA i hi with⟨d,hd,bD⟩|HD;exact h2 k d hd bD;have:=hx.bd i b h1;omega;obtain⟨q1,q2⟩:=uP k e;rw[q1]at hc;rw[q2]at hi;exact h2 k c hc hi
def lM(Y:Nat->Option Nat)(k:Nat)(o:Option Nat):Nat->Option Nat:=fun j=>if j=k then o else Y j
theorem sw(Y:Nat->Option Nat)(k:Nat)(o:Option Nat):lM Y k o k=o:=by simp[lM]
theorem ly(Y:Nat->Option Nat){j:Nat}(o:Option Nat)(h:j≠k):lM Y k o j=Y j:=by simp[lM,h]
theorem RG(hx:jZ x):gt x.O.h x.O.nx=none:=by
 rcases h:gt x.O.h x.O.nx with _|b;rfl;have:=(hx.ok _ b h).1;omega
theorem uk(hx:jZ x)(b:B)(c:lB)(hB:∀y:Cx,y.Y x.O.nx=some x.s.nx->lk y.s.h x.s.nx=some c->Mo x.O.nx x y->nI y x.O.nx b):
  Out x ⟨lM x.Y x.O.nx (some x.s.nx),newU x.O b,⟨(x.s.nx,c)::x.s.h,x.s.nx+1⟩⟩:=by
 refine step1 hx x.O.nx b (by simp[newU]) (by simp[newU]) (fun k hk=>⟨by simp[newU,lG,Ne.symm hk],ly _ _ hk⟩) (by simp[newU,lG]) (.inr ⟨RG hx,zF _⟩) (fun i d hd _=>?_) (fun i hi=>?_) (fun i d hd=>?_) (fun hm=>?_);have:=hx.bd i d hd;simp[m5,show x.s.nx≠i by omega,hd];change lM _ _ _ _=some i at hi;rw[sw]at hi;cases hi;exact .inr (zF _);simp only[m5]at hd;split at hd;show i<x.s.nx+1;omega;exact Nat.lt_succ_of_lt (hx.bd i d hd);exact hB _ (by simp[lM]) (by simp[m5]) hm
theorem Xn(hx:jZ x)(e:TypeId)(sz:Nat)(dS:0<sz):Out x ⟨lM x.Y x.O.nx none,newU x.O (.vec [] e sz 0),x.s⟩:=by
 refine step1 hx x.O.nx (.vec [] e sz 0) (by simp[newU]) (by simp[newU]) (fun k hk=>⟨by simp[newU,lG,Ne.symm hk],ly _ _ hk⟩) (by simp[newU,lG]) (.inr ⟨RG hx,zF _⟩) (fun i d hd _=>hd) (fun i hi=>?_) hx.bd (fun hm=>?_);change lM _ _ _ _=some i at hi;rw[sw]at hi;cases hi;exact⟨rfl,dS,.inl ⟨rfl,by simp[lM]⟩⟩
theorem Jj{c:lB}{st:Nat}(c8:b.st=st){p:Option Nat->Prop}(hp:p (some x.s.nx)):Ref ⟨lM x.Y x.O.nx (some x.s.nx),newU x.O b,⟨(x.s.nx,c)::x.s.h,x.s.nx+1⟩⟩ x.O.nx st p:=by
 refine⟨by simp[newU],fun b' cQ=>?_⟩;simp only[newU,lG,if_true,zA]at cQ;subst cQ;exact⟨Nat.le_of_eq c8.symm,fun _=>by simpa[lM]using hp⟩
theorem Ce(hx:jZ x){K i:Nat}{b0 bK:B}{c:lB}(h0:gt x.O.h K=some b0)(hi:x.Y K=some i){c0:lB}(DD:lk x.s.h i=some c0)(c8:b0.st=bK.st)(hv:∀l e sz st,b0=.vec l e sz st->∃l',bK=.vec l' e sz st)
  (hB:∀y:Cx,y.Y K=some i->lk y.s.h i=some c->Mo x.O.nx x y->nI y K bK):Out x ⟨x.Y,⟨ug x.O.h K bK,x.O.nx⟩,⟨up x.s.h i c,x.s.nx⟩⟩:=by
 refine step1 hx K bK (zF _) (hx.ok K _ h0).1 (fun k hk=>⟨by simp[OU,Ne.symm hk],rfl⟩) (by simp[OU,h0]) (.inl ⟨b0,h0,Nat.le_of_eq c8,fun _=>⟨rfl,hv⟩⟩) (fun j d hd cW=>?_) (fun j hj=>.inl ⟨b0,h0,hj⟩) (fun j d hd=>?_) (fun hm=>?_);have:i≠j:=fun e=>cW b0 h0 (by rw[hi,e]);simp[xL,this,hd];simp only[xL]at hd;split at hd;rename_i e;subst e;exact hx.bd i _ DD;exact hx.bd j d hd;exact hB _ hi (by simp[xL,DD]) hm
theorem Cn{zu:List U}{z:List Value}(h:bB x zu z)(n:Nat):bB x (uK zu n) (bZ z n):=by
 induction n with|zero=>exact bB.nil x|succ n ih=>simp only[uK,List.replicate_succ,List.flatten_cons,bZ];exact h.append ih
theorem uf{zu:List U}(h:okL zu=true)(n:Nat):okL (uK zu n)=true:=by
 induction n with|zero=>rfl|succ n ih=>simp only[uK,List.replicate_succ,List.flatten_cons];exact G8 h ih
section
variable{T:Tb}{x:Cx}(hx:jZ x){tm:List U}{tv:List Value}(ht:bB x tm tv)
include hx
theorem Ya{l:List U}{l':List Value}(hl:bB x l l')(hk:okL l=true)(e:TypeId):Out x ⟨lM x.Y x.O.nx (some x.s.nx),newU x.O (.row l e),Rx.newRow x.s l' e 0⟩:=
 uk hx (.row l e) (.inl (l',e,0)) fun y h1 h2 hm=>⟨hk,x.s.nx,l',h1,h2,hm.ke.E hl.bel hl⟩
theorem Xz{l:List U}{l':List Value}(hl:bB x l l')(hk:okL l=true)(e:TypeId){sz:Nat}(dS:0<sz):Out x ⟨lM x.Y x.O.nx (some x.s.nx),newU x.O (.vec l e sz 0),Rx.newRow x.s l' e (sz+2)⟩:=
 uk hx (.vec l e sz 0) (.inl (l',e,sz+2)) fun y h1 h2 hm=>⟨hk,dS,.inr ⟨x.s.nx,l',h1,h2,hm.ke.E hl.bel hl⟩⟩
variable{t:TypeId}
variable{r:U}
variable{O':Sg}
theorem z1w{p u:U}{pv uv:Value}(h:US T x.O t p u=some (r,O'))(hp:aD x p pv)(hu:aD x u uv):
  ∃v y,Bk T x.s t pv uv=some (v,y.s)/\y.O=O'/\aD y r v/\Out x y:=by
 unfold US at h;cases p with
 |ptr k st off=>
  simp only at h;rcases hs:cC T t with _|n;simp[hs]at h;simp only[hs]at h;rcases hc:vJ u with _|cs;simp[hc]at h;simp only[hc]at h;obtain⟨c1,c2⟩:=pq hu hc;rcases aU:Nat.beq cs.length n with _|_;simp[aU]at h;simp only[aU,zC,c2]at h;rcases dX:cellsOf x.O k st with _|l;simp[dX]at h;simp only[dX]at h;obtain⟨i,lv,e,md,q1,rfl,q2,q3,q4,q5,q6⟩:=ql4 hx dX hp;have c1':=z7x (O:=x.O) (k:=k) c1;have c2':okL (DX x.O k cs)=true:=by rw[T8];exact c2
  rcases hput:oM l off (DX x.O k cs)with _|l1;simp[hput]at h;simp only[hput]at h;obtain⟨rv,p1,p2,p3⟩:=Wp hput q4 c1';have p4:=p3 q5 c2';have c8:Bk T x.s t (.pointer (some ⟨i,off,none⟩)) uv=some (undef,⟨up x.s.h i (.inl (rv,e,md)),x.s.nx⟩):=by
   have wL:cM x.s i=some (lv,e,md):=by unfold cM;rcases q6 with⟨rfl,_⟩|⟨sz,rfl,_⟩<;>simp[q2]
   simp only[Bk,hs];rw[<-c1.2,aU];simp only[zC,PQ c1 c2,wL,p1]
  rcases q6 with⟨rfl,hg⟩|⟨sz,rfl,hz,hg⟩;simp only[JA,hg,zA,zB]at h;obtain⟨rfl,rfl⟩:=h;exact⟨undef,⟨x.Y,⟨ug x.O.h k (.row l1 e),x.O.nx⟩,⟨up x.s.h i (.inl (rv,e,0)),x.s.nx⟩⟩,c8,rfl,by simp[aD],Ce hx hg q1 q2 rfl (by simp) fun y h1 h2 hm=>⟨p4,i,rv,h1,h2,hm.ke.E p2.bel p2⟩⟩;simp only[JA,hg,zA,zB]at h;obtain⟨rfl,rfl⟩:=h;exact⟨undef,⟨x.Y,⟨ug x.O.h k (.vec l1 e sz st),x.O.nx⟩,⟨up x.s.h i (.inl (rv,e,sz+2)),x.s.nx⟩⟩,c8,rfl,by simp[aD],Ce hx hg q1 q2 rfl (by rintro l e sz st h;cases h;exact⟨_,rfl⟩) fun y h1 h2 hm=>⟨p4,hz,.inr ⟨i,rv,h1,h2,hm.ke.E p2.bel p2⟩⟩⟩
 |_=>simp at h
theorem qsl{n:Nat}{ps:List (Nat×U)}{pv:List (Nat×Value)}(h:Kk T x.O t n ps=some (r,O'))(hp:UR x ps pv):∃v y,Kj T x.s t n pv=some (v,y.s)/\y.O=O'/\aD y r v/\Out x y:=by
 unfold Kk at h;rcases hd:T.und t with _|d;simp[hd]at h;cases d with
 |slice e=>
  simp only[hd]at h;rcases hi:T.inf e with _|q;simp[hi]at h;obtain⟨sz,by_,z⟩:=q;simp only[hi]at h;rcases h1:Nat.ble (n*sz) 16777216 with _|_;simp[h1]at h;simp only[h1,zC]at h;rcases h2:Nat.ble n 16777216 with _|_;simp[h2]at h;simp only[h2,zC]at h;rcases h3:Nat.beq z.cells.toList.length sz with _|_;simp only[h3,zD]at h;cases h;simp only[h3,zC]at h;rcases h4:pH z.cells.toList with _|zu;simp[h4]at h;simp only[h4]at h;have sE:=(LD _ _ h4).2 x;rcases h5:tV (fun i=>some (i*sz,sz)) (uK zu n) ps with _|cs;simp[h5]at h;simp only[h5]at h;rcases h6:okL cs with _|_;simp[h6]at h;simp only[h6,zC,zA,zB]at h;obtain⟨rfl,rfl⟩:=h;obtain⟨rv,f1,f2⟩:=Ka hp (Cn sE n) h5;have fY:n<bS:=by have:=zY h2;unfold bS;omega
  refine⟨.slice (some ⟨x.s.nx,0,none⟩) n n,_,?_,rfl,?_,Ya hx f2 h6 e⟩;simp only[Kj,hd,hi,h1,h3,zC,f1,pN fY];simp only[aD];exact⟨rfl,Jj rfl ⟨x.s.nx,rfl,rfl,fY,zF _⟩⟩
 |_=>simp[hd]at h
theorem z3x{a b:U}{va vb:Value}(h:Gd T x.O t a b=some (r,O'))(ha:aD x a va)(hb:aD x b vb):∃v y,Gc T x.s t va vb=some (v,y.s)/\y.O=O'/\aD y r v/\Out x y:=by
 unfold Gd at h;rcases hd:T.und t with _|d;simp[hd]at h;cases d with
 |slice e=>
  cases a with
  |int ka a=>
   cases b with
   |int kb b=>
    simp only[aD]at ha hb;subst ha;subst hb;simp only[hd]at h;rcases hi:T.inf e with _|q;simp[hi]at h;obtain⟨sz,by_,z⟩:=q;simp only[hi]at h;rcases h4:pH z.cells.toList with _|zu;simp[h4]at h;simp only[h4]at h;have sE:=(LD _ _ h4).2 x;rcases h6:okL zu with _|_;simp[h6]at h;simp only[h6,zC]at h;rcases h3:Nat.beq z.cells.toList.length sz with _|_;simp only[h3,zD]at h;cases h;simp only[h3,zC]at h;split at h;rename_i hc;simp only[zA,zB]at h;obtain⟨rfl,rfl⟩:=h;obtain⟨c1,c2,c3,c4⟩:=hc;have Fe:IntKind.i64.wrap a=Int.ofNat a.toNat:=by rw[wrap_i64 (by omega) (by omega)];simp;omega
    have Pt:IntKind.i64.wrap b=Int.ofNat b.toNat:=by rw[wrap_i64 (by omega) (by omega)];simp;omega
    have fY:b.toNat<bS:=by unfold bS;omega
    refine⟨.slice (some ⟨x.s.nx,0,none⟩) a.toNat b.toNat,_,?_,rfl,?_,Ya hx (Cn (Jb sE) b.toNat) (uf (by rw[Bj];exact h6) _) e⟩;simp only[Gc,hd,hi,Fe,Pt,h3,zC,pN fY,Nat.ble_eq_true_of_le c3,Nat.ble_eq_true_of_le (show a.toNat<=b.toNat by omega)];simp only[aD];exact⟨rfl,Jj rfl ⟨x.s.nx,rfl,rfl,fY,by omega⟩⟩;cases h
   |_=>simp[hd]at h
  |_=>simp[hd]at h
 |_=>simp[hd]at h
end
end Go.Vx
