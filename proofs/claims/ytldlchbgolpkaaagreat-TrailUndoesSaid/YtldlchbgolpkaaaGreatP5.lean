import Derived.IntWalk
import Derived.Test.YtldlchbgolpkaaaGreatP4
set_option linter.all false
namespace Go.Rx
open Go
def WP(P:Program)(c:Code)(tm:List Value)(s:S)(Q:Exit->List Value->S->Prop):Prop :=
 ∀m w a,i4 m s w->xR m s.nx tm a->a.defers=[]->
  c.wp P (fun e a' w'=>∃m' tm' s',Q e tm' s'/\bP m s w m' s' w'/\xR m' s'.nx tm' a'/\a'.defers=[]) a w
def Less(s s':S):Prop:=s.nx<=s'.nx/\∀i b,lk s'.h i=some b->lk s.h i=some b
theorem bP.less{m:Nm}{s s':S}{w:World}(h:i4 m s w)(hl:Less s s'):bP m s w m s' w:=by
 refine⟨aM.refl _ _,hl.1,fun m' ha=>?_,?_,fun _ _ _=>rfl,zF _,rfl,rfl,rfl⟩;have hf:=h m' (ha.mono hl.1);exact⟨fun i b hb=>hf.ok i b (hl.2 i b hb),fun i j b c hb hc=>hf.inj i j b c (hl.2 i b hb) (hl.2 j c hc),fun i b hb=>Nat.lt_of_lt_of_le (hf.bd i b (hl.2 i b hb)) hl.1⟩;rintro k ⟨j,d,hd,ho,rfl⟩;exact .inl ⟨j,d,hl.2 j d hd,ho,rfl⟩
theorem wrap_i64{x:Int}(h1 : -9223372036854775808<=x)(h2:x<=9223372036854775807):IntKind.i64.wrap x=x:=IntWalk.i64_in x ⟨h1,h2⟩
section
variable{P:Program}{Q:Exit->List Value->S->Prop}{tm:List Value}{s:S}
theorem WP.exit{id:Nat}(h:Q (.exit id) tm s):WP P (.exit id) tm s Q:=fun m _ _ hf ha hd=>wp_exit ⟨m,tm,s,h,bP.refl hf,ha,hd⟩
def qy7(id:Nat)(Q:Exit->List Value->S->Prop):Exit->List Value->S->Prop
 |.exit id',tm,s=>if id'=id then Q .normal tm s else Q (.exit id') tm s|e,tm,s=>Q e tm s
theorem WP.block{id:Nat}{c:Code}(h:WP P c tm s (qy7 id Q)):WP P (.block id c) tm s Q:=fun m w a hf ha hd=>by
 refine wp_block (wp_mono (h m w a hf ha hd) ?_);rintro e a' w' ⟨m',tm',s',h1,h2,h3,h4⟩;cases e with
 |exit id'=>simp only[Exit.inBlock];simp only[qy7]at h1;by_cases KC:id'=id;simp only[KC,if_true]at h1 ⊢;exact⟨m',tm',s',h1,h2,h3,h4⟩;simp only[KC,if_false]at h1 ⊢;exact⟨m',tm',s',h1,h2,h3,h4⟩|_=>exact⟨m',tm',s',h1,h2,h3,h4⟩
variable{T:Tb}(hT:lF P T){call:GZ}(hC:Gb P call)
include hT hC
end
def p0(tm:List Value)(op:Op):Option Value :=
 match op with
 |.move x=>evalO tm x|.assign x=>evalO tm x
 |.pick c a b=>match evalO tm c with
  |some (.bool true)=>evalO tm a|some (.bool false)=>evalO tm b
  |_=>none
 |.nilCheck x=>match evalO tm x with
  |some (.pointer (some a))=>some (.pointer (some a))|_=>none
 |.binOp op _ x y _=>match evalO tm x,evalO tm y with
  |some (.int k a),some (.int k' b)=>kL op k a k' b|_,_=>none
 |.unOp op _ x=>match evalO tm x with
  |some a=>RI op a|none=>none
 |.makeFunc fn first cap=>match kM tm first.toList,kM tm cap.toList with
  |some a,some b=>some (.func fn a.toArray b.toArray)|_,_=>none
 |.extract x i=>match evalO tm x with
  |some a=>Gu a i|none=>none
 |.call c=>match c.callee with
  |.builtin .max=>match kM tm c.args.toList with
   |some (x::l)=>yN S7 x l|_=>none
  |.builtin .min=>match kM tm c.args.toList with
   |some (x::l)=>yN S6 x l|_=>none
  |_=>none
 |_=>none
section
variable{T:Tb}{call:GZ}{a9 rest:List Oper}{o:Oper}{tm:List Value}{s:S}{K:List Value->S->Prop}
end
section
variable{P:Program}{Q:Exit->List Value->S->Prop}{tm:List Value}{s:S}{T:Tb}(hT:lF P T){call:GZ}(hC:Gb P call)
include hT hC
end
end Go.Rx
namespace Go.Vx
open Go Go.Rx
inductive U where
 |junk
 |bool (b:Bool)
 |int (k:IntKind) (n:Int)
 |str (s:List UInt8)
 |nilp
 |ptr (k st off:Nat)
 |iptr (l:List U)
 |nils
 |sl (k off n c:Nat)
 |vl (k st off n:Nat)
 |isl (t:Bool) (l:List (List U))
 |nilm
 |map (k:Nat)
 |fn (f:Fn) (first cap:List U)
 |nilf
 |nili
 |agg (l:List U)
 |tup (l:List U)
 deriving Inhabited
def okC:U->Bool
 |.junk=>false|.agg _=>false
 |.tup _=>false|_=>true
def okL:List U->Bool
 |[]=>true|u::l=>cond (okC u) (okL l) false
theorem OH(l:List U):okL l=true↔∀u∈l,okC u=true:=by
 induction l with|nil=>simp[okL]|cons u l ih=>cases h:okC u<;>simp[okL,h,ih]
structure ME where
 key:U
 val:U
 born:Nat
inductive B where
 |row (l:List U) (e:TypeId)
 |vec (l:List U) (e:TypeId) (sz st:Nat)
 |map (es:List ME) (cl:Nat)
structure Sg where
 h:List (Nat×B)
 nx:Nat
def gt:List (Nat×B)->Nat->Option B
 |[],_=>none|(j,b)::h,i=>cond (Nat.beq j i) (some b) (gt h i)
def ug:List (Nat×B)->Nat->B->List (Nat×B)
 |[],_,_=>[]|(j,b)::h,i,c=>cond (Nat.beq j i) ((j,c)::h) ((j,b)::ug h i c)
def rg:List (Nat×B)->Nat->List (Nat×B)
 |[],_=>[]|(j,b)::h,i=>cond (Nat.beq j i) (rg h i) ((j,b)::rg h i)
theorem dY(j:Nat)(b:B)(h:List (Nat×B))(i:Nat):gt ((j,b)::h) i=if j=i then some b else gt h i:=by
 simp only[gt,beq_eq];by_cases e:j=i<;>simp[e]
theorem BK(h:List (Nat×B))(i:Nat)(c:B)(j:Nat):gt (ug h i c) j=if i=j then(gt h i).map (fun _=>c)else gt h j:=by
 induction h with|nil=>simp[ug,gt]|cons x h ih=>obtain⟨k,b⟩:=x;simp only[ug,beq_eq];by_cases e:k=i;subst e;simp only[yC,zC,dY];by_cases e2:k=j<;>simp[e2];simp only[e,yB,zD,dY,ih];by_cases e2:i=j;subst e2;simp[e];by_cases e3:k=j<;>simp[e2,e3]
theorem gt_rg(h:List (Nat×B))(i j:Nat):gt (rg h i) j=if i=j then none else gt h j:=by
 induction h with|nil=>simp[rg,gt]|cons x h ih=>obtain⟨k,b⟩:=x;simp only[rg,beq_eq];by_cases e:k=i;subst e;simp only[yC,zC,dY,ih];by_cases e2:k=j<;>simp[e2];simp only[e,yB,zD,dY,ih];by_cases e2:i=j;subst e2;simp[e];by_cases e3:k=j<;>simp[e2,e3]
def B.st:B->Nat
 |.vec _ _ _ st=>st|_=>0
structure Cx where
 Y:Nat->Option Nat
 X:Sg
 s:S
def Ref(x:Cx)(k st:Nat)(p:Option Nat->Prop):Prop:=k<x.X.nx/\∀b,gt x.X.h k=some b->st<=b.st/\(st=b.st->p (x.Y k))
def LO(off n:Nat)(v:Value)(sz:Nat):Option Nat->Prop
 |none=>off=0/\n=0/\∃o,v=.slice o 0 0/\∀a,o=some a->a.spot=none|some i=>(0<off/\n=0/\∃a c,v=.slice (some a) 0 c/\a.spot=none)\/v=.slice (some ⟨i,off*sz,none⟩) n (bX+off)
mutual
def aD(x:Cx):U->Value->Prop
 |.junk,_=>True|.bool b,v=>v=.bool b
 |.int k n,v=>v=.int k n|.str l,v=>v=.string ⟨⟨l⟩⟩
 |.nilp,v=>v=.pointer none|.ptr k st off,v=>v.oneCell'=true/\Ref x k st fun o=>∃i,o=some i/\v=.pointer (some ⟨i,off,none⟩)
 |.iptr l,v=>∃i off row e,v=.pointer (some ⟨i,off,none⟩)/\lk x.s.h i=some (.inl (row,e,1))/\cT x l (row.drop off)/\okL l=true|.nils,v=>v=.slice none 0 0
 |.sl k off n c,v=>v.oneCell'=true/\Ref x k 0 fun o=>∃i,o=some i/\v=.slice (some ⟨i,off,none⟩) n c/\c<bX/\n<=c
 |.vl k st off n,v=>v.oneCell'=true/\k<x.X.nx/\∀b,gt x.X.h k=some b->st<=b.st/\(st=b.st->∃l e sz,b=.vec l e sz st/\LO off n v sz (x.Y k))|.isl t l,v=>(l=[]/\(v=.slice none 0 0\/∃r,v=.chan (some r)))\/∃i off c,v=.slice (some ⟨i,off,none⟩) l.length c/\(t=true->c=l.length/\c<bX)/\
   (l=[]\/∃row e sz,lk x.s.h i=some (.inl (row,e,1))/\iO x sz l (row.drop off)/\ ((c<bX/\l.length<=c)\/(bX<=c/\e=sz+1/\0<sz/\off=bQ c*sz/\off+l.length*sz<=row.length)))
 |.nilm,v=>v=.map none|.map k,v=>v.oneCell'=true/\Ref x k 0 fun o=>∃i,o=some i/\v=.map (some i)
 |.fn f a b,v=>∃va vb,v=.func f ⟨va⟩ ⟨vb⟩/\cT x a va/\a.length=va.length/\cT x b vb/\b.length=vb.length|.nilf,v=>v=.nilFunc
 |.nili,v=>v=.nilIface|.agg l,v=>∃vs,v=.agg ⟨vs⟩/\cT x l vs/\l.length=vs.length/\okL l=true
 |.tup l,v=>∃vs,v=.tuple ⟨vs⟩/\cT x l vs/\l.length=vs.length
def cT(x:Cx):List U->List Value->Prop
 |[],_=>True|u::us,vs=>match vs with
  |[]=>False|v::vs=>aD x u v/\cT x us vs
def iO(x:Cx)(sz:Nat):List (List U)->List Value->Prop
 |[],_=>True|c::cs,vs=>c.length=sz/\okL c=true/\cT x c vs/\iO x sz cs (vs.drop sz)
end
mutual
def bB(n:Nat):U->Prop
 |.ptr k _ _=>k<n|.sl k _ _ _=>k<n
 |.vl k _ _ _=>k<n|.map k=>k<n
 |.iptr l=>aL n l|.isl _ l=>mP n l
 |.fn _ a b=>aL n a/\aL n b|.agg l=>aL n l
 |.tup l=>aL n l|_=>True
def aL(n:Nat):List U->Prop
 |[]=>True|u::us=>bB n u/\aL n us
def mP(n:Nat):List (List U)->Prop
 |[]=>True|c::cs=>aL n c/\mP n cs
end
theorem J7(x:Cx):∀(l:List U)(vs:List Value),cT x l vs↔∀(i:Nat)(u:U),l[i]? = some u->∃v,vs[i]? = some v/\aD x u v
 |[],vs=>by simp[cT]
 |u::us,[]=>by simp only[cT,false_iff];intro h;obtain⟨v,hv,_⟩:=h 0 u rfl;simp at hv
 |u::us,v::vs=>by
  simp only[cT,J7 x us vs];constructor;rintro⟨h1,h2⟩ i w hi;cases i with
  |zero=>simp at hi;subst hi;exact⟨v,rfl,h1⟩|succ i=>simp at hi;simpa using h2 i w hi
  intro h;refine⟨?_,fun i w hi=>by simpa using h (i+1) w (by simpa using hi)⟩;obtain⟨v',h1,h2⟩:=h 0 u rfl;simp at h1;subst h1;exact h2
theorem F7(n:Nat):∀l:List U,aL n l↔∀u∈l,bB n u
 |[]=>by simp[aL]
 |u::us=>by simp[aL,F7 n us]
theorem qxn(n:Nat):∀l:List (List U),mP n l↔∀c∈l,aL n c
 |[]=>by simp[mP]
 |u::us=>by simp[mP,qxn n us]
structure Mo(n:Nat)(x y:Cx):Prop where
 ref:∀k,k<n->k<x.X.nx->k<y.X.nx/\∀b',gt y.X.h k=some b'->∃b,gt x.X.h k=some b/\b.st<=b'.st/\(b.st=b'.st->y.Y k=x.Y k/\∀l e sz st,b=.vec l e sz st->∃l',b'=.vec l' e sz st)
 imm:∀i row e,lk x.s.h i=some (.inl (row,e,1))->lk y.s.h i=some (.inl (row,e,1))
variable{n:Nat}
variable{x:Cx}
variable{y:Cx}
theorem Mo.ref'(h:Mo n x y){k st:Nat}{p:Option Nat->Prop}(hk:k<n)(hr:Ref x k st p):Ref y k st p:=by
 obtain⟨h1,h2⟩:=hr;obtain⟨g1,g2⟩:=h.ref k hk h1;refine⟨g1,fun b' cU=>?_⟩;obtain⟨b,e1,e2,e3⟩:=g2 b' cU;obtain⟨e4,e5⟩:=h2 b e1;refine⟨Nat.le_trans e4 e2,fun e=>?_⟩;have:b.st=b'.st:=by omega
 rw[(e3 this).1];exact e5 (by omega)
mutual
theorem aD.mono{n:Nat}{x y:Cx}(h:Mo n x y):(u:U)->(v:Value)->bB n u->aD x u v->aD y u v
 |.junk,v,_,_=>by simp[aD]
 |.bool b,v,_,hr=>by simpa[aD]using hr
 |.int k z,v,_,hr=>by simpa[aD]using hr
 |.str l,v,_,hr=>by simpa[aD]using hr
 |.nilp,v,_,hr=>by simpa[aD]using hr
 |.ptr k st off,v,hb,hr=>by simp only[aD]at*;exact⟨hr.1,h.ref' (by simpa[bB]using hb) hr.2⟩
 |.iptr l,v,hb,hr=>by simp only[aD]at*;obtain⟨i,off,row,e,h1,h2,h3,h4⟩:=hr;exact⟨i,off,row,e,h1,h.imm _ _ _ h2,cT.mono h l _ (by simpa[bB]using hb) h3,h4⟩
 |.nils,v,_,hr=>by simpa[aD]using hr
 |.sl k off m c,v,hb,hr=>by simp only[aD]at*;exact⟨hr.1,h.ref' (by simpa[bB]using hb) hr.2⟩
 |.vl k st off m,v,hb,hr=>by
  simp only[aD]at*;obtain⟨h0,h1,h2⟩:=hr;obtain⟨g1,g2⟩:=h.ref k (by simpa[bB]using hb) h1;refine⟨h0,g1,fun b' cU=>?_⟩;obtain⟨b,e1,e2,e3⟩:=g2 b' cU;obtain⟨e4,e5⟩:=h2 b e1;refine⟨Nat.le_trans e4 e2,fun e=>?_⟩;have e6:b.st=b'.st:=by omega
  obtain⟨l,e',sz,e7,e8⟩:=e5 (by omega);obtain⟨e9,e10⟩:=e3 e6;obtain⟨l',e11⟩:=e10 _ _ _ _ e7;rw[e9];exact⟨l',e',sz,e11,e8⟩
 |.isl t l,v,hb,hr=>by simp only[aD]at*;rcases hr with hr |⟨i,off,c,h1,h2,h3⟩;exact .inl hr;refine .inr ⟨i,off,c,h1,h2,?_⟩;rcases h3 with h3 |⟨row,e,sz,g1,g2,g3⟩;exact .inl h3;exact .inr ⟨row,e,sz,h.imm _ _ _ g1,iO.mono h l _ (by simpa[bB]using hb) g2,g3⟩
 |.nilm,v,_,hr=>by simpa[aD]using hr
 |.map k,v,hb,hr=>by simp only[aD]at*;exact⟨hr.1,h.ref' (by simpa[bB]using hb) hr.2⟩
 |.fn f a b,v,hb,hr=>by simp only[aD]at*;obtain⟨va,vb,h1,h2,h3,h4,h5⟩:=hr;simp only[bB]at hb;exact⟨va,vb,h1,cT.mono h a _ hb.1 h2,h3,cT.mono h b _ hb.2 h4,h5⟩
 |.nilf,v,_,hr=>by simpa[aD]using hr
 |.nili,v,_,hr=>by simpa[aD]using hr
 |.agg l,v,hb,hr=>by simp only[aD]at*;obtain⟨vs,h1,h2,h3⟩:=hr;exact⟨vs,h1,cT.mono h l _ (by simpa[bB]using hb) h2,h3⟩
 |.tup l,v,hb,hr=>by simp only[aD]at*;obtain⟨vs,h1,h2,h3⟩:=hr;exact⟨vs,h1,cT.mono h l _ (by simpa[bB]using hb) h2,h3⟩
theorem cT.mono{n:Nat}{x y:Cx}(h:Mo n x y):(l:List U)->(vs:List Value)->aL n l->cT x l vs->cT y l vs
 |[],_,_,_=>by simp[cT]
 |u::us,[],_,hr=>by simp[cT]at hr
 |u::us,v::vs,hb,hr=>by simp only[cT,aL]at*;exact⟨aD.mono h u v hb.1 hr.1,cT.mono h us vs hb.2 hr.2⟩
theorem iO.mono{n sz:Nat}{x y:Cx}(h:Mo n x y):(l:List (List U))->(vs:List Value)->mP n l->iO x sz l vs->iO y sz l vs
 |[],_,_,_=>by simp[iO]
 |c::cs,vs,hb,hr=>by simp only[iO,mP]at*;exact⟨hr.1,hr.2.1,cT.mono h c vs hb.1 hr.2.2.1,iO.mono h cs _ hb.2 hr.2.2.2⟩
end
mutual
theorem aD.bel{x:Cx}:(u:U)->(v:Value)->aD x u v->bB x.X.nx u
 |.ptr k st off,v,hr=>by simp only[aD,bB]at*;exact hr.2.1
 |.sl k off m c,v,hr=>by simp only[aD,bB]at*;exact hr.2.1
 |.vl k st off m,v,hr=>by simp only[aD,bB]at*;exact hr.2.1
 |.map k,v,hr=>by simp only[aD,bB]at*;exact hr.2.1
 |.iptr l,v,hr=>by simp only[aD,bB]at*;obtain⟨i,off,row,e,h1,h2,h3,_⟩:=hr;exact cT.bel l _ h3
 |.isl t l,v,hr=>by simp only[aD,bB]at*;rcases hr with⟨rfl,_⟩|⟨i,off,c,h1,h2,h3⟩;simp[mP];rcases h3 with rfl |⟨row,e,sz,g1,g2,_⟩;simp[mP];exact iO.bel l _ g2
 |.fn f a b,v,hr=>by simp only[aD,bB]at*;obtain⟨va,vb,h1,h2,h3,h4,h5⟩:=hr;exact⟨cT.bel a _ h2,cT.bel b _ h4⟩
 |.agg l,v,hr=>by simp only[aD,bB]at*;obtain⟨vs,h1,h2,h3⟩:=hr;exact cT.bel l _ h2
 |.tup l,v,hr=>by simp only[aD,bB]at*;obtain⟨vs,h1,h2,h3⟩:=hr;exact cT.bel l _ h2
 |.junk,_,_=>by simp[bB]
 |.bool _,_,_=>by simp[bB]
 |.int _ _,_,_=>by simp[bB]
 |.str _,_,_=>by simp[bB]
 |.nilp,_,_=>by simp[bB]
 |.nils,_,_=>by simp[bB]
 |.nilm,_,_=>by simp[bB]
 |.nilf,_,_=>by simp[bB]
 |.nili,_,_=>by simp[bB]
theorem cT.bel{x:Cx}:(l:List U)->(vs:List Value)->cT x l vs->aL x.X.nx l
 |[],_,_=>by simp[aL]
 |u::us,[],hr=>by simp[cT]at hr
 |u::us,v::vs,hr=>by simp only[cT,aL]at*;exact⟨aD.bel u v hr.1,cT.bel us vs hr.2⟩
theorem iO.bel{x:Cx}{sz:Nat}:(l:List (List U))->(vs:List Value)->iO x sz l vs->mP x.X.nx l
 |[],_,_=>by simp[mP]
 |c::cs,vs,hr=>by simp only[iO,mP]at*;exact⟨cT.bel c vs hr.2.2.1,iO.bel cs _ hr.2.2.2⟩
end
def bF(x:Cx)(l:List U)(vs:List Value):Prop:=cT x l vs/\l.length=vs.length
variable{l:List U}
variable{vs:List Value}
variable{u:U}
theorem bF.get(h:bF x l vs){i:Nat}(hu:l[i]? = some u):∃v,vs[i]? = some v/\aD x u v:=(J7 x l vs).1 h.1 i u hu
theorem bF.mk'(hl:l.length=vs.length)(h:∀(i:Nat)(u:U),l[i]? = some u->∃v,vs[i]? = some v/\aD x u v):bF x l vs:=⟨(J7 x l vs).2 h,hl⟩
theorem bF.nil(x:Cx):bF x [] []:=⟨by simp[cT],rfl⟩
theorem bF.cons{v:Value}(h:aD x u v)(h':bF x l vs):bF x (u::l) (v::vs):=⟨by simp[cT,h,h'.1],by simp[h'.2]⟩
theorem bF.inv(h:bF x (u::l) vs):∃v vG,vs=v::vG/\aD x u v/\bF x l vG:=by
 obtain⟨h1,h2⟩:=h;rcases vs with _|⟨v,vs⟩;simp at h2;simp only[cT]at h1;exact⟨v,vs,rfl,h1.1,h1.2,by simpa using h2⟩
theorem bF.nil_inv(h:bF x [] vs):vs=[]:=by
 have:=h.2;simpa using this.symm
theorem bF.append{a b:List U}{va vb:List Value}(h:bF x a va)(h':bF x b vb):bF x (a++b) (va++vb):=by
 induction a generalizing va with|nil=>rw[h.nil_inv];exact h'|cons u a ih=>obtain⟨v,vs,rfl,h1,h2⟩:=h.inv;exact bF.cons h1 (ih h2)
theorem bF.drop{x:Cx}{a:List U}{va:List Value}(h:bF x a va)(n:Nat):bF x (a.drop n) (va.drop n):=by
 refine bF.mk' (by simp[h.2]) fun i u hu=>?_;rw[List.getElem?_drop]at hu ⊢;exact h.get hu
theorem bF.take{x:Cx}{a:List U}{va:List Value}(h:bF x a va)(n:Nat):bF x (a.take n) (va.take n):=by
 refine bF.mk' (by simp[h.2]) fun i u hu=>?_;rw[List.getElem?_take]at hu ⊢;split at hu;rename_i aE;simp only[aE,if_true];exact h.get hu;cases hu
theorem bF.set{x:Cx}{a:List U}{va:List Value}(h:bF x a va)(n:Nat){u:U}{v:Value}(hu:aD x u v):bF x (a.set n u) (va.set n v):=by
 refine bF.mk' (by simp[h.2]) fun i w hw=>?_;rw[List.getElem?_set]at hw ⊢;split at hw;split at hw;cases hw;rename_i h1 h2;subst h1;rw[h.2]at h2;simp[h2,hu];cases hw;rename_i cZ;simp only[cZ,if_false];exact h.get hw
theorem bF.mono{n:Nat}{x y:Cx}(h:Mo n x y){l:List U}{vs:List Value}(hb:aL n l)(hr:bF x l vs):bF y l vs:=⟨cT.mono h l vs hb hr.1,hr.2⟩
theorem cT.takeE(h:cT x l vs):bF x l (vs.take l.length):=by
 refine bF.mk' ?_ fun i u hu=>?_;rcases Nat.lt_or_ge vs.length l.length with aE |wW
 have hu:l[vs.length]? = some l[vs.length]:=by simp[aE]
 obtain⟨v,hv,_⟩:=(J7 x l vs).1 h _ _ hu;simp at hv;simp;omega;obtain⟨v,hv,hr⟩:=(J7 x l vs).1 h i u hu;have:i<l.length:=(zG.1 hu).1;exact⟨v,by rw[List.getElem?_take];simp[this,hv],hr⟩
theorem cT.len(h:cT x l vs):l.length<=vs.length:=by
 have:=h.takeE.2;rw[List.length_take]at this;omega
theorem cT.drop{x:Cx}{l:List U}{vs:List Value}(h:cT x l vs)(n:Nat):cT x (l.drop n) (vs.drop n):=by
 rw[J7]at*;intro i u hu;rw[List.getElem?_drop]at hu ⊢;exact h _ _ hu
def u7(x:Cx)(es:List ME)(vs:List MapEntry):Prop:=es.length=vs.length/\∀(i:Nat)(e:ME),es[i]? = some e->∃v:MapEntry,vs[i]? = some v/\aD x e.key v.key/\aD x e.val v.val/\v.born=e.born
def oE(x:Cx)(k:Nat):B->Prop
 |.row l e=>okL l=true/\∃i l',x.Y k=some i/\lk x.s.h i=some (.inl (l',e,0))/\bF x l l'|.vec l e sz _=>okL l=true/\0<sz/\(l=[]/\x.Y k=none\/∃i l',x.Y k=some i/\lk x.s.h i=some (.inl (l',e,sz+2))/\bF x l l')
 |.map es cl=>∃i es',x.Y k=some i/\lk x.s.h i=some (.inr (es',cl))/\u7 x es es'
structure kF(x:Cx):Prop where
 ok:∀k b,gt x.X.h k=some b->k<x.X.nx/\oE x k b
 inj:∀k k' b b' i,gt x.X.h k=some b->gt x.X.h k'=some b'->x.Y k=some i->x.Y k'=some i->k=k'
 bd:∀i b,lk x.s.h i=some b->i<x.s.nx
def Fr(F:Nat->lK->Prop)(x:Cx):Prop:=∀i b,F i b->lk x.s.h i=some b/\∀k c,gt x.X.h k=some c->x.Y k≠some i
def Ke(n:Nat)(x y:Cx):Prop:=∀u v,bB n u->aD x u v->aD y u v
theorem Ke.refl(n:Nat)(x:Cx):Ke n x x:=fun _ _ _ h=>h
theorem Ke.trans{z:Cx}(h:Ke n x y)(h':Ke n y z):Ke n x z:=fun u v hb hr=>h' u v hb (h u v hb hr)
mutual
theorem bB.le{n k:Nat}(h:n<=k):(u:U)->bB n u->bB k u
 |.ptr a _ _,hb=>by simp only[bB]at*;omega
 |.sl a _ _ _,hb=>by simp only[bB]at*;omega
 |.vl a _ _ _,hb=>by simp only[bB]at*;omega
 |.map a,hb=>by simp only[bB]at*;omega
 |.iptr l,hb=>by simp only[bB]at*;exact aL.le h l hb
 |.isl t l,hb=>by simp only[bB]at*;exact mP.le h l hb
 |.fn f a b,hb=>by simp only[bB]at*;exact⟨aL.le h a hb.1,aL.le h b hb.2⟩
 |.agg l,hb=>by simp only[bB]at*;exact aL.le h l hb
 |.tup l,hb=>by simp only[bB]at*;exact aL.le h l hb
 |.junk,_=>by simp[bB]
 |.bool _,_=>by simp[bB]
 |.int _ _,_=>by simp[bB]
 |.str _,_=>by simp[bB]
 |.nilp,_=>by simp[bB]
 |.nils,_=>by simp[bB]
 |.nilm,_=>by simp[bB]
 |.nilf,_=>by simp[bB]
 |.nili,_=>by simp[bB]
theorem aL.le{n k:Nat}(h:n<=k):(l:List U)->aL n l->aL k l
 |[],_=>by simp[aL]
 |u::us,hb=>by simp only[aL]at*;exact⟨bB.le h u hb.1,aL.le h us hb.2⟩
theorem mP.le{n k:Nat}(h:n<=k):(l:List (List U))->mP n l->mP k l
 |[],_=>by simp[mP]
 |u::us,hb=>by simp only[mP]at*;exact⟨aL.le h u hb.1,mP.le h us hb.2⟩
end
theorem Ke.le{n k:Nat}{x y:Cx}(h:Ke k x y)(hk:n<=k):Ke n x y:=fun u v hb hr=>h u v (bB.le hk u hb) hr
theorem Mo.ke(h:Mo n x y):Ke n x y:=fun u v hb hr=>aD.mono h u v hb hr
theorem Ke.E(h:Ke n x y)(hb:aL n l)(hr:bF x l vs):bF y l vs :=
 bF.mk' hr.2 fun i u hu=>by obtain⟨v,h1,h2⟩:=hr.get hu;exact⟨v,h1,h u v ((F7 n l).1 hb u (zX hu)) h2⟩
theorem bF.bel{x:Cx}{l:List U}{vs:List Value}(hr:bF x l vs):aL x.X.nx l:=cT.bel l vs hr.1
mutual
def toV:U->Option Value
 |.bool b=>some (.bool b)|.int k n=>some (.int k n)
 |.str s=>some (.string ⟨⟨s⟩⟩)|.nilp=>some (.pointer none)
 |.nils=>some (.slice none 0 0)|.nilm=>some (.map none)
 |.nilf=>some .nilFunc|.nili=>some .nilIface
 |.agg l=>cond (okL l) (match eP l with
  |some vs=>some (.agg ⟨vs⟩)|none=>none) none
 |_=>none
def eP:List U->Option (List Value)
 |[]=>some []|u::l=>match toV u with
  |some v=>(match eP l with
   |some vs=>some (v::vs)|none=>none)
  |none=>none
end
mutual
def iI:Value->Option U
 |.bool b=>some (.bool b)|.int k n=>some (.int k n)
 |.string s=>some (.str s.data.toList)|.pointer none=>some .nilp
 |.slice none n c=>match n,c with
  |0,0=>some .nils|_,_=>none
 |.map none=>some .nilm|.nilFunc=>some .nilf
 |.nilIface=>some .nili|.agg ⟨l⟩=>match pV l with
  |some us=>cond (okL us) (some (.agg us)) none|none=>none
 |_=>none
def pV:List Value->Option (List U)
 |[]=>some []|v::l=>match iI v with
  |some u=>(match pV l with
   |some us=>some (u::us)|none=>none)
  |none=>none
end
def xT:U->Option (List U)
 |.junk=>none|.tup _=>none
 |.agg l=>some l|u=>some [u]
def c8(tm:List U):Operand->Option U
 |.tmp t=>nth tm t|.const v=>iI v
 |.func f=>some (.fn (.func f) [] [])|.global _=>none
def mB(tm:List U):List Operand->Option (List U)
 |[]=>some []|x::l=>match c8 tm x with
  |some v=>(match mB tm l with
   |some r=>some (v::r)|none=>none)
  |none=>none
def AS(tm:List U):List (Nat×Operand)->Option (List (Nat×U))
 |[]=>some []|(i,x)::l=>match c8 tm x with
  |some v=>(match AS tm l with
   |some r=>some ((i,v)::r)|none=>none)
  |none=>none
def xS(tm:List U):Option Operand->Option (Option Value)
 |none=>some none|some x=>match c8 tm x with
  |some (.int k n)=>some (some (.int k n))|_=>none
def bU(X:Sg)(k st:Nat):Bool:=match gt X.h k with
 |some b=>Nat.beq b.st st|none=>false
def cellsOf(X:Sg)(k st:Nat):Option (List U):=match gt X.h k with
 |some (.row l _)=>cond (Nat.beq 0 st) (some l) none|some (.vec l _ _ cR)=>cond (Nat.beq cR st) (some l) none
 |_=>none
def rowOf(X:Sg)(k:Nat):Option (List U):=match gt X.h k with
 |some (.row l _)=>some l|_=>none
def wK(X:Sg)(k st:Nat):Option (List U×TypeId×Nat):=match gt X.h k with
 |some (.vec l e sz cR)=>cond (Nat.beq cR st) (some (l,e,sz)) none|_=>none
def M2(X:Sg)(k:Nat)(l:List U):Option Sg:=match gt X.h k with
 |some (.row _ e)=>some ⟨ug X.h k (.row l e),X.nx⟩|some (.vec _ e sz st)=>some ⟨ug X.h k (.vec l e sz st),X.nx⟩
 |_=>none
def kS(l:List U)(off n:Nat):Option (List U):=if off+n<=l.length then some ((l.drop off).take n)else none
def pU(l:List U)(off:Nat)(vs:List U):Option (List U):=if off+vs.length<=l.length then some (l.take off++(vs++l.drop (off+vs.length)))else none
def qr(T:Tb)(t:TypeId)(cs:List U)(off:Nat):Option U :=
 match T.und t with
 |none=>none|some d=>cond (rP d) (match cN T t with
   |some n=>some (.agg ((cs.drop off).take n))|none=>none) (nth cs off)
def uT(place:Nat->Option (Nat×Nat))(cells:List U):List (Nat×U)->Option (List U)
 |[]=>some cells|(i,v)::rest=>match place i with
  |none=>none|some (off,size)=>match xT v with
   |none=>none|some cs=>cond (Nat.beq cs.length size) (match pU cells off cs with
    |some c=>uT place c rest|none=>none) none
def Fy(T:Tb)(t:TypeId)(ps:List (Nat×U)):Option U :=
 match T.inf t with
 |none=>none|some (_,_,z)=>match pV z.cells.toList with
  |none=>none|some zu=>match T.und t with
   |some (.struct fs)=>cond (J0 T fs.toList) (match uT (MB T fs.toList) zu ps with
    |some cs=>cond (okL cs) (some (.agg cs)) none|none=>none) none
   |some (.array _ e)=>(match cN T e with
    |none=>none|some n=>match uT (fun i=>some (i*n,n)) zu ps with
     |some cs=>cond (okL cs) (some (.agg cs)) none|none=>none)
   |_=>none
def g1(f:Value->Option Value)(u:U):Option U:=match toV u with
 |some v=>(match f v with
  |some r=>iI r|none=>none)
 |none=>none
def g2(f:Value->Value->Option Value)(a b:U):Option U:=match toV a with
 |some x=>(match toV b with
  |some y=>(match f x y with
   |some r=>iI r|none=>none)
  |none=>none)
 |none=>none
def eK(X:Sg):U->Nat
 |.ptr k st _=>cond (bU X k st) 1 0|.iptr _=>1
 |.sl k _ _ _=>cond (bU X k 0) 2 0|.vl k st _ (_+1)=>cond (bU X k st) 2 0
 |.isl _ (_::_)=>2|.map k=>cond (bU X k 0) 3 0
 |_=>0
def F5:U->Nat
 |.nilp=>1|.nils=>2
 |.nilm=>3|_=>0
def u9(T:Tb)(t:TypeId):Nat:=match T.und t with
 |some (.pointer _)=>1|some (.slice _)=>2
 |some (.map _ _)=>3|_=>0
def W7:BinOp->Option U
 |.eql=>some (.bool false)|.neq=>some (.bool true)
 |_=>none
def OA(T:Tb)(X:Sg)(op:BinOp)(t:TypeId)(x y:U):Option U :=
 cond (Nat.beq (u9 T t) 0) none (cond (cond (Nat.beq (eK X x) (u9 T t)) (Nat.beq (F5 y) (u9 T t)) (cond (Nat.beq (F5 x) (u9 T t)) (Nat.beq (eK X y) (u9 T t)) false)) (W7 op) none)
def R4(T:Tb)(X:Sg)(op:BinOp)(t:TypeId)(x y:U):Option U:=match g2 (pX T op t) x y with
 |some r=>some r|none=>OA T X op t x y
def SI(T:Tb)(X:Sg)(st:TypeId)(x:U)(f:Nat):Option U :=
 match T.und st with
 |some (.struct fs)=>match nth fs.toList f with
  |some fd=>(match cN T fd.type with
   |some (_+1)=>match x with
    |.ptr k s off=>cond (bU X k s) (some (.ptr k s (off+fd.offset))) none|.iptr l=>some (.iptr (l.drop fd.offset))
    |_=>none
   |_=>none)
  |none=>none
 |_=>none
def eu(T:Tb)(st:TypeId)(x:U)(f:Nat):Option U :=
 match T.und st with
 |some (.struct fs)=>match nth fs.toList f with
  |some fd=>(match x with
   |.agg cs=>qr T fd.type cs fd.offset|_=>none)
  |none=>none
 |_=>none
def BN(T:Tb)(X:Sg)(t:TypeId)(x ix:U):Option U :=
 match ix with
 |.int _ i=>match T.und t with
  |some (.slice e)=>(match cN T e with
   |some sz=>match x with
    |.sl k off n _=>cond (bU X k 0) (if 0<=i/\i<n then some (.ptr k 0 (off+i.toNat*sz))else none) none|.vl k st off n=>(match wK X k st with
     |some (l,_,iY)=>cond (Nat.beq iY sz) (if 0<=i/\i<n/\l≠[]then some (.ptr k st (off*sz+i.toNat*sz))else none) none|none=>none)
    |.isl _ l=>if 0<=i/\i<l.length then(match l[i.toNat]? with
     |some c=>cond (Nat.beq c.length sz) (some (.iptr c)) none|none=>none)else none
    |_=>none
   |none=>none)
  |some (.array n e)=>(match cN T e with
   |some sz=>match x with
    |.ptr k st off=>cond (bU X k st) (if 0<=i/\i<n then some (.ptr k st (off+i.toNat*sz))else none) none|.iptr l=>if 0<=i/\i<n then some (.iptr (l.drop (i.toNat*sz)))else none
    |_=>none
   |none=>none)
  |_=>none
 |_=>none
def we(T:Tb)(t:TypeId)(x ix:U):Option U :=
 match x with
 |.agg cs=>(match ix with
  |.int _ i=>match T.und t with
   |some (.array n e)=>(if 0<=i/\i<n then(match cN T e with
    |some sz=>qr T e cs (i.toNat*sz)|none=>none)else none)
   |_=>none
  |_=>none)
 |_=>g2 (Y0 T t) x ix
def xu(x:U)(i:Nat):Option U:=match x with
 |.tup vs=>nth vs i|_=>none
def lenU(T:Tb)(X:Sg)(t:TypeId)(x:U):Option U:=match T.und t with
 |some (.slice _)=>(match x with
  |.nils=>some (.int .i64 0)|.sl k _ n _=>cond (bU X k 0) (some (.int .i64 n)) none
  |.vl k st _ n=>cond (bU X k st) (some (.int .i64 n)) none|.isl _ l=>some (.int .i64 l.length)
  |_=>none)
 |some .string=>(match x with
  |.str s=>some (.int .i64 s.length)|_=>none)
 |some (.array n _)=>(match x with
  |.junk=>none|_=>some (.int .i64 n))
 |some (.map _ _)=>(match x with
  |.nilm=>some (.int .i64 0)|.map k=>(match gt X.h k with
   |some (.map es _)=>some (.int .i64 es.length)|_=>none)
  |_=>none)
 |_=>none
def GE(T:Tb)(X:Sg)(t:TypeId)(x:U):Option U:=match T.und t with
 |some (.slice _)=>(match x with
  |.nils=>some (.int .i64 0)|.sl k _ _ c=>cond (bU X k 0) (some (.int .i64 c)) none
  |_=>none)
 |_=>none
def pW{O:Type}(l:List O)(lo hi:Nat):List O:=(l.take hi).drop lo
def IZ(T:Tb)(X:Sg)(t:TypeId)(x:U)(lo hi mx:Option Value):Option U :=
 match T.und t with
 |some .string=>(match x with
  |.str s=>(match mx with
   |some _=>none|none=>match gZ s.length s.length lo hi none with
    |some (l,h,_)=>some (.str (pW s l h))|none=>none)
  |_=>none)
 |some (.slice e)=>(match cN T e with
  |some sz=>match x with
   |.nils=>(match gZ 0 0 lo hi mx with
    |some _=>some .nils|none=>none)
   |.sl k off n c=>cond (bU X k 0) (match gZ n c lo hi mx with
    |some (l,h,m)=>some (.sl k (cond (Nat.beq m l) off (off+l*sz)) (h-l) (m-l))|none=>none) none
   |.vl k st off n=>(match wK X k st with
    |some (r,_,iY)=>cond (Nat.beq iY sz) (match mx with
     |some _=>none|none=>match gZ n n lo hi none with
      |some (l,h,_)=>if(off+n)*sz<=r.length then some (.vl k st (off+l) (h-l))else none|none=>none) none
    |none=>none)
   |.isl t l=>if(l.all fun c=>Nat.beq c.length sz)=true then(match gZ l.length l.length lo hi mx with
    |some (a,h,m)=>(match mx with
      |some _=>if m<bX then some (.isl (Nat.beq m h) (pW l a h))else none|none=>some (.isl (cond t (Nat.beq h l.length) false) (pW l a h)))
    |none=>none)else none
   |_=>none
  |none=>none)
 |_=>none
def gG(T:Tb)(X:Sg)(tm:List U)(op:Op):Option U :=
 match op with
 |.move x=>c8 tm x|.assign x=>c8 tm x
 |.pick c a b=>(match c8 tm c with
  |some (.bool true)=>c8 tm a|some (.bool false)=>c8 tm b
  |_=>none)
 |.build t ps=>(match AS tm ps.toList with
  |some qs=>Fy T t qs|none=>none)
 |.nilCheck x=>(match c8 tm x with
  |some (.ptr k st off)=>cond (bU X k st) (some (.ptr k st off)) none|some (.iptr l)=>some (.iptr l)
  |some (.fn (.func f) a b)=>some (.fn (.func f) a b)|_=>none)
 |.binOp op t x y _=>(match c8 tm x,c8 tm y with
  |some a,some b=>R4 T X op t a b|_,_=>none)
 |.unOp op _ x=>(match c8 tm x with
  |some a=>g1 (RI op) a|none=>none)
 |.convert s d x=>(match c8 tm x with
  |some a=>g1 (convX T s d) a|none=>none)
 |.makeFunc fn first cap=>(match mB tm first.toList,mB tm cap.toList with
  |some a,some b=>some (.fn fn a b)|_,_=>none)
 |.slice t x lo hi mx=>(match c8 tm x,xS tm lo,xS tm hi,xS tm mx with
  |some a,some l,some h,some m=>IZ T X t a l h m|_,_,_,_=>none)
 |.fieldAddr t x f=>(match c8 tm x with
  |some a=>SI T X t a f|none=>none)
 |.field t x f=>(match c8 tm x with
  |some a=>eu T t a f|none=>none)
 |.indexAddr t x i=>(match c8 tm x,c8 tm i with
  |some a,some b=>BN T X t a b|_,_=>none)
 |.index t x i=>(match c8 tm x,c8 tm i with
  |some a,some b=>we T t a b|_,_=>none)
 |.extract x i=>(match c8 tm x with
  |some a=>xu a i|none=>none)
 |.call c=>(match c.callee with
  |.builtin .len=>(match mB tm c.args.toList,c.argTypes.toList with
   |some [x],t::_=>lenU T X t x|_,_=>none)
  |.builtin .cap=>(match mB tm c.args.toList,c.argTypes.toList with
   |some [x],t::_=>GE T X t x|_,_=>none)
  |.builtin .max=>(match mB tm c.args.toList with
   |some (x::l)=>(match toV x,eP l with
    |some a,some b=>(match yN S7 a b with
     |some r=>iI r|none=>none)
    |_,_=>none)
   |_=>none)
  |.builtin .min=>(match mB tm c.args.toList with
   |some (x::l)=>(match toV x,eP l with
    |some a,some b=>(match yN S6 a b with
     |some r=>iI r|none=>none)
    |_,_=>none)
   |_=>none)
  |_=>none)
 |_=>none
def BL(T:Tb)(kt:TypeId)(k:Value):List ME->Nat->Option (Option (Nat×U))
 |[],_=>some none|e::es,i=>match toV e.key with
  |none=>none|some k'=>match eqv T 50 kt k k' with
   |some true=>some (some (i,e.val))|some false=>BL T kt k es (i+1)
   |none=>none
def GY(T:Tb)(t:TypeId)(l:List U)(off:Nat):Option U:=match T.und t with
 |none=>none|some d=>cond (rP d) (match cN T t with
   |some n=>(match kS l off n with
    |some cs=>some (.agg cs)|none=>none)
   |none=>none) (nth l off)
def nC(T:Tb)(X:Sg)(tm:List U)(op:Op):Option U :=
 match op with
 |.load t x=>(match c8 tm x with
  |some (.ptr k st off)=>(match cellsOf X k st with
   |some l=>GY T t l off|none=>none)
  |some (.iptr l)=>GY T t l 0|_=>none)
 |.lookup t x k ok=>(match T.und t,c8 tm x,c8 tm k with
  |some (.map kt et),some m,some ku=>(match toV ku with
   |none=>none|some kv=>cond (oL T 50 kt kv)
    (match (match m with
      |.nilm=>some []|.map r=>(match gt X.h r with
       |some (.map es _)=>some es|_=>none)
      |_=>none)with
     |none=>none|some es=>match BL T kt kv es 0 with
      |none=>none|some (some (_,v))=>some (cond ok (.tup [v,.bool true]) v)
      |some none=>match T.inf et with
       |some (_,_,z)=>(match iI z with
        |some zu=>some (cond ok (.tup [zu,.bool false]) zu)|none=>none)
       |none=>none) none)
  |_,_,_=>none)
 |_=>none
def Ln:U->U
 |.nils=>.isl false []|.isl _ l=>.isl false l
 |u=>u
def rN:List U->List U
 |[]=>[]|u::l=>Ln u::rN l
def newU(X:Sg)(b:B):Sg:=⟨(X.nx,b)::X.h,X.nx+1⟩
def wJ(X:Sg)(sz:Nat)(x:U):Option (Nat×List U):=match x with
 |.nils=>some (0,[])|.isl _ l=>if(l.all fun c=>Nat.beq c.length sz)=true then some (l.length,l.flatten)else none
 |.sl k off n _=>(match rowOf X k with
  |some l=>(match kS l off (n*sz)with
   |some cs=>some (n,rN cs)|none=>none)
  |none=>none)
 |.vl k st off n=>(match wK X k st with
  |some (l,_,iY)=>cond (Nat.beq iY sz) (match kS l (off*sz) (n*sz)with
   |some cs=>some (n,cs)|none=>none) none
  |none=>none)
 |_=>none
def MC(T:Tb)(X:Sg)(t xt:TypeId)(s x:U):Option (U×Sg):=
 match T.und t,T.und xt with
 |some (.slice e),some (.slice _)=>(match T.inf e with
  |some (sz+1,by_,z)=>cond (Nat.beq z.cells.toList.length (sz+1)) (match wJ X (sz+1) x with
   |none=>none|some (k,new)=>match s with
    |.nils=>if k*by_<=140737488355328/\k<=140737488355328 then some (.vl X.nx 0 0 k,newU X (.vec new e (sz+1) 0))else none|.isl true l=>if(l.length+k)*by_<=140737488355328/\l.length+k<=140737488355328/\0<k/\(l.all fun c=>Nat.beq c.length (sz+1))=true then some (.vl X.nx 0 0 (l.length+k),newU X (.vec (l.flatten++new) e (sz+1) 0))else none
    |.sl a off n c=>(match rowOf X a with
     |none=>none|some l=>match kS l off (n*(sz+1))with
      |none=>none|some old=>if n=0/\c=0 then(if k*by_<=140737488355328/\k<=140737488355328 then some (.vl X.nx 0 0 k,newU X (.vec new e (sz+1) 0))else none)
       else if c<n+k then(if(n+k)*by_<=140737488355328/\n+k<=140737488355328/\0<k then some (.vl X.nx 0 0 (n+k),newU X (.vec (rN old++new) e (sz+1) 0))else none)else none)
    |.vl a st off n=>(match gt X.h a with
     |some (.vec l e' iY cR)=>cond (Nat.beq cR st) (cond (Nat.beq e' e) (cond (Nat.beq iY (sz+1)) (match kS l (off*(sz+1)) (n*(sz+1))with
      |none=>none|some p=>if(n+k)*by_<=140737488355328/\n+k<=140737488355328/\(0<k/\(off=0\/0<n)\/off=0/\n*(sz+1)=l.length)then some (.vl a (st+1) 0 (n+k),⟨ug X.h a (.vec (p++new) e (sz+1) (st+1)),X.nx⟩)else none) none) none) none
     |_=>none)
    |_=>none) none
  |_=>none)
 |_,_=>none
def ic(T:Tb)(X:Sg)(t xt:TypeId)(s x:U):Option (U×Sg):=
 match T.und t,T.und xt,s,x with
 |some (.slice e),some (.int _),.nils,.int _ i=>(match T.inf e with
  |some (sz+1,by_,z)=>(match pV z.cells.toList with
   |some zu=>if 0<i/\i.toNat*by_<=140737488355328/\i.toNat<=140737488355328/\z.cells.toList.length=sz+1/\okL zu=true then
     some (.vl X.nx 0 0 i.toNat,newU X (.vec (rN (List.replicate i.toNat zu).flatten) e (sz+1) 0))else none
   |none=>none)
  |_=>none)
 |_,_,_,_=>none
def xw(T:Tb)(X:Sg)(t xt:TypeId)(s x:U):Option (U×Sg):=match MC T X t xt s x with
 |some r=>some r|none=>ic T X t xt s x
def cg(T:Tb)(X:Sg)(t:TypeId)(d x:U):Option (U×Sg):=
 match T.und t with
 |some (.slice e)=>(match cN T e with
  |none=>none|some sz=>match wJ X sz x with
   |none=>none|some (k,cs)=>match d with
    |.sl a off n _=>(match rowOf X a with
     |some l=>if n=0\/k=0\/sz=0 then none else(match pU l off (cs.take (Nat.min k n*sz))with
      |some l'=>(match M2 X a l' with
       |some X'=>some (.int .i64 (Nat.min k n),X')|none=>none)
      |none=>none)
     |none=>none)
    |_=>none)
 |_=>none
def GU(X:Sg)(k:Nat)(cs:List U):List U:=match gt X.h k with
 |some (.vec _ _ _ _)=>rN cs|_=>cs
def XS(T:Tb)(X:Sg)(t:TypeId)(p u:U):Option (U×Sg):=
 match p with
 |.ptr k st off=>(match cN T t with
  |none=>none|some n=>match xT u with
   |none=>none|some cs=>cond (Nat.beq cs.length n) (cond (okL cs) (match cellsOf X k st with
    |some l=>(match pU l off (GU X k cs)with
     |some l'=>(match M2 X k l' with
      |some X'=>some (.junk,X')|none=>none)
     |none=>none)
    |none=>none) none) none)
 |_=>none
def vO(z:List U)(n:Nat):List U:=(List.replicate n z).flatten
def Lc(T:Tb)(X:Sg)(t:TypeId)(l c:U):Option (U×Sg):=
 match T.und t,l,c with
 |some (.slice e),.int _ a,.int _ b=>(match T.inf e with
  |some (sz,by_,z)=>(match pV z.cells.toList with
   |some zu=>cond (okL zu) (cond (Nat.beq z.cells.toList.length sz) (if 0<=a/\a<=b/\by_*b.toNat<=281474976710656/\b<=281474976710656 then
     some (.sl X.nx 0 a.toNat b.toNat,newU X (.row (vO (rN zu) b.toNat) e))else none) none) none
   |none=>none)
  |none=>none)
 |_,_,_=>none
def tg(T:Tb)(X:Sg)(t:TypeId)(x:U):Option (U×Sg):=
 match T.und t with
 |some (.slice e)=>(match T.inf e with
  |some (sz,_,z)=>(match pV z.cells.toList with
   |some zu=>cond (okL zu) (cond (Nat.beq z.cells.toList.length sz) (match x with
    |.vl k st off n=>(match wK X k st with
     |some (l,e',iY)=>cond (Nat.beq iY sz) (if n=0 then some (.junk,X)else(match pU l (off*sz) (vO (rN zu) n)with
      |some l'=>some (.junk,⟨ug X.h k (.vec l' e' iY st),X.nx⟩)|none=>none)) none
     |none=>none)
    |.nils=>some (.junk,X)|_=>none) none) none
   |none=>none)
  |none=>none)
 |_=>none
def Pk(T:Tb)(X:Sg)(t:TypeId)(n:Nat)(ps:List (Nat×U)):Option (U×Sg):=
 match T.und t with
 |some (.slice e)=>(match T.inf e with
  |some (sz,_,z)=>cond (Nat.ble (n*sz) 16777216) (cond (Nat.ble n 16777216) (cond (Nat.beq z.cells.toList.length sz) (match pV z.cells.toList with
   |none=>none|some zu=>match uT (fun i=>some (i*sz,sz)) (vO zu n) ps with
    |some cs=>cond (okL cs) (some (.sl X.nx 0 n n,newU X (.row cs e))) none|none=>none) none) none) none
  |none=>none)
 |_=>none
def I0(es:List ME)(i:Nat)(f:ME->ME):List ME:=match es,i with
 |[],_=>[]|e::es,0=>f e::es
 |e::es,i+1=>e::I0 es i f
def Lh(b:Int):List ME->Nat->Option Nat
 |[],_=>none|e::es,i=>cond (decide ((e.born:Int)=b)) (some i) (Lh b es (i+1))
def Fw(es:List ME)(i:Nat):List ME:=match es,i with
 |[],_=>[]|_::es,0=>es
 |e::es,i+1=>e::Fw es i
def OJ(X:Sg)(r:Nat)(es:List ME)(cl:Nat):Sg:=⟨ug X.h r (.map es cl),X.nx⟩
def No(T:Tb)(X:Sg)(t:TypeId)(m k v:U):Option (U×Sg):=
 match T.und t,m with
 |some (.map kt _),.map r=>(match toV k with
  |none=>none|some kv=>cond (oL T 50 kt kv) (cond (plain kv) (match gt X.h r with
   |some (.map es cl)=>(match BL T kt kv es 0 with
    |none=>none|some none=>some (.junk,OJ X r (es++[{ key:=k,val:=v,born:=cl }]) (cl+1))
    |some (some (i,_))=>match nth es i with
     |none=>none|some e=>match toV e.key with
      |none=>none|some kv'=>cond (AI 50 kv' kv) (some (.junk,OJ X r (I0 es i fun e=>{ e with val:=v }) cl)) none)
   |_=>none) none) none)
 |_,_=>none
def ao(T:Tb)(X:Sg)(t:TypeId)(m k:U):Option (U×Sg):=
 match T.und t,m with
 |some (.map kt et),.map r=>(match toV k with
  |none=>none|some kv=>cond (oL T 50 kt kv) (cond (plain kv) (match gt X.h r with
   |some (.map es cl)=>(match BL T kt kv es 0 with
    |none=>none|some none=>(match T.inf et with
     |none=>none|some (_,_,z)=>match iI z with
      |none=>none|some zu=>some (.tup [zu,.int .i64 cl],OJ X r (es++[{ key:=k,val:=zu,born:=cl }]) (cl+1)))
    |some (some (i,v))=>match nth es i with
     |none=>none|some e=>match toV e.key with
      |none=>none|some kv'=>cond (AI 50 kv' kv) (some (.tup [v,.int .i64 e.born],OJ X r es cl)) none)
   |_=>none) none) none)
 |_,_=>none
def te(X:Sg)(m st v:U):Option (U×Sg):=
 match m,st with
 |.map r,.int _ b=>(match gt X.h r with
  |some (.map es cl)=>(match Lh b es 0 with
   |none=>none|some i=>some (.junk,OJ X r (I0 es i fun e=>{ e with val:=v }) cl))
  |_=>none)
 |_,_=>none
def Dp(T:Tb)(X:Sg)(t:TypeId)(m k:U):Option (U×Sg):=
 match T.und t,m with
 |some (.map kt _),.map r=>(match toV k with
  |none=>none|some kv=>cond (oL T 50 kt kv) (match gt X.h r with
   |some (.map es cl)=>(match BL T kt kv es 0 with
    |none=>none|some none=>some (.junk,OJ X r es cl)
    |some (some (i,_))=>some (.junk,OJ X r (Fw es i) cl))
   |_=>none) none)
 |_,_=>none
def nO(T:Tb)(X:Sg)(tm:List U)(op:Op):Option (U×Sg):=
 match op with
 |.alloc e=>(match T.inf e with
  |some (_,_,z)=>(match pV z.cells.toList with
   |some zu=>cond (okL zu) (some (.ptr X.nx 0 0,newU X (.row zu e))) none|none=>none)
  |none=>none)
 |.box e x=>(match c8 tm x with
  |some u=>(match xT u with
   |some cs=>cond (okL cs) (some (.ptr X.nx 0 0,newU X (.row cs e))) none|none=>none)
  |none=>none)
 |.store t a x=>(match c8 tm a,c8 tm x with
  |some p,some v=>XS T X t p v|_,_=>none)
 |.buildSlice t n ps=>(match AS tm ps.toList with
  |some qs=>Pk T X t n qs|none=>none)
 |.makeSlice t l c=>(match c8 tm l,c8 tm c with
  |some a,some b=>Lc T X t a b|_,_=>none)
 |.makeMap _ none=>some (.map X.nx,newU X (.map [] 0))|.mapUpdate t m k x=>(match c8 tm m,c8 tm k,c8 tm x with
  |some a,some b,some v=>No T X t a b v|_,_,_=>none)
 |.insert t m k x=>(match c8 tm m,c8 tm k,c8 tm x with
  |some a,some b,some v=>No T X t a b v|_,_,_=>none)
 |.mapEntry t m k=>(match c8 tm m,c8 tm k with
  |some a,some b=>ao T X t a b|_,_=>none)
 |.entryStore _ m st x=>(match c8 tm m,c8 tm st,c8 tm x with
  |some a,some b,some v=>te X a b v|_,_,_=>none)
 |.call c=>(match c.callee with
  |.builtin .append=>(match mB tm c.args.toList,c.argTypes.toList with
   |some [a,b],[t,xt]=>xw T X t xt a b|_,_=>none)
  |.builtin .copy=>(match mB tm c.args.toList,c.argTypes.toList with
   |some [a,b],t::_=>cg T X t a b|_,_=>none)
  |.builtin .delete=>(match mB tm c.args.toList,c.argTypes.toList with
   |some [a,b],t::_=>Dp T X t a b|_,_=>none)
  |.builtin .clear=>(match mB tm c.args.toList,c.argTypes.toList with
   |some [a],t::_=>tg T X t a|_,_=>none)
  |_=>none)
 |_=>none
def bM(T:Tb)(X:Sg)(tm:List U)(op:Op):Option (U×Sg):=
 match gG T X tm op with
 |some v=>some (v,X)|none=>match nC T X tm op with
  |some v=>some (v,X)|none=>nO T X tm op
def k8(T:Tb)(tm:List U)(op:Op):Option (FuncId×List U):=
 match op with
 |.call c=>(match c.callee with
  |.value f=>(match c8 tm f with
   |some (.fn (.func g) first cap)=>(match T.fn g with
    |some fn=>cond fn.body.isSome (match mB tm c.args.toList with
     |some args=>some (g,first++args++cap)|none=>none) none
    |none=>none)
   |_=>none)
  |_=>none)
 |_=>none
end Go.Vx
namespace Go.Vx
open Go Go.Rx
mutual
theorem AU:(u:U)->(v:Value)->toV u=some v->∀(x:Cx)(v':Value),aD x u v'↔v'=v
 |.bool b,v,h,x,v'=>by simp only[toV,zA]at h;subst h;simp[aD]
 |.int k n,v,h,x,v'=>by simp only[toV,zA]at h;subst h;simp[aD]
 |.str l,v,h,x,v'=>by simp only[toV,zA]at h;subst h;simp[aD]
 |.nilp,v,h,x,v'=>by simp only[toV,zA]at h;subst h;simp[aD]
 |.nils,v,h,x,v'=>by simp only[toV,zA]at h;subst h;simp[aD]
 |.nilm,v,h,x,v'=>by simp only[toV,zA]at h;subst h;simp[aD]
 |.nilf,v,h,x,v'=>by simp only[toV,zA]at h;subst h;simp[aD]
 |.nili,v,h,x,v'=>by simp only[toV,zA]at h;subst h;simp[aD]
 |.agg l,v,h,x,v'=>by simp only[toV]at h;rcases hk:okL l with _|_;simp[hk]at h;simp only[hk,zC]at h;rcases hl:eP l with _|vs;simp[hl]at h;simp only[hl,zA]at h;subst h;have:=H9 l vs hl x;simp only[aD,hk,and_true];constructor;rintro⟨ws,rfl,h1,h2⟩;rw[(this ws).1 ⟨h1,h2⟩];rintro rfl;exact⟨vs,rfl,((this vs).2 rfl).1,((this vs).2 rfl).2⟩
 |.junk,v,h,x,v'=>by simp[toV]at h
 |.ptr _ _ _,v,h,x,v'=>by simp[toV]at h
 |.iptr _,v,h,x,v'=>by simp[toV]at h
 |.sl _ _ _ _,v,h,x,v'=>by simp[toV]at h
 |.vl _ _ _ _,v,h,x,v'=>by simp[toV]at h
 |.isl _ _,v,h,x,v'=>by simp[toV]at h
 |.map _,v,h,x,v'=>by simp[toV]at h
 |.fn _ _ _,v,h,x,v'=>by simp[toV]at h
 |.tup _,v,h,x,v'=>by simp[toV]at h
theorem H9:(l:List U)->(vs:List Value)->eP l=some vs->∀(x:Cx)(ws:List Value),bF x l ws↔ws=vs
 |[],vs,h,x,ws=>by simp only[eP,zA]at h;subst h;exact⟨fun h=>h.nil_inv,fun h=>h ▸ bF.nil x⟩
 |u::l,vs,h,x,ws=>by simp only[eP]at h;rcases hu:toV u with _|v;simp[hu]at h;rcases hl:eP l with _|vG;simp[hu,hl]at h;simp only[hu,hl,zA]at h;subst h;constructor;intro hr;obtain⟨w,ws',rfl,h1,h2⟩:=hr.inv;rw[(AU u v hu x w).1 h1,(H9 l vG hl x ws').1 h2];rintro rfl;exact bF.cons ((AU u v hu x v).2 rfl) ((H9 l vG hl x vG).2 rfl)
end
mutual
theorem O9:(v:Value)->(u:U)->iI v=some u->plain v=true/\∀x:Cx,aD x u v
 |.bool b,u,h=>by simp only[iI,zA]at h;subst h;simp[aD,plain]
 |.int k n,u,h=>by simp only[iI,zA]at h;subst h;simp[aD,plain]
 |.string s,u,h=>by simp only[iI,zA]at h;subst h;simp[aD,plain]
 |.pointer none,u,h=>by simp only[iI,zA]at h;subst h;simp[aD,plain]
 |.slice none n c,u,h=>by simp only[iI]at h;split at h;simp only[zA]at h;subst h;simp[aD,plain];cases h
 |.map none,u,h=>by simp only[iI,zA]at h;subst h;simp[aD,plain]
 |.nilFunc,u,h=>by simp only[iI,zA]at h;subst h;simp[aD,plain]
 |.nilIface,u,h=>by simp only[iI,zA]at h;subst h;simp[aD,plain]
 |.agg ⟨l⟩,u,h=>by simp only[iI]at h;rcases hl:pV l with _|us;simp[hl]at h;simp only[hl]at h;rcases hk:okL us with _|_;simp[hk]at h;simp only[hk,zC,zA]at h;subst h;obtain⟨h1,h2⟩:=OI l us hl;exact⟨by simp[plain,h1],fun x=>by simp only[aD];exact⟨l,rfl,(h2 x).1,(h2 x).2,hk⟩⟩
 |.float _ _,u,h=>by simp[iI]at h
 |.complex _ _ _,u,h=>by simp[iI]at h
 |.pointer (some _),u,h=>by simp[iI]at h
 |.slice (some _) _ _,u,h=>by simp[iI]at h
 |.map (some _),u,h=>by simp[iI]at h
 |.chan _,u,h=>by simp[iI]at h
 |.func _ _ _,u,h=>by simp[iI]at h
 |.iface _ _,u,h=>by simp[iI]at h
 |.tuple _,u,h=>by simp[iI]at h
theorem OI:(l:List Value)->(us:List U)->pV l=some us->S9 l=true/\∀x:Cx,bF x us l
 |[],us,h=>by simp only[pV,zA]at h;subst h;exact⟨by simp[S9],fun x=>bF.nil x⟩
 |v::l,us,h=>by simp only[pV]at h;rcases hv:iI v with _|u;simp[hv]at h;rcases hl:pV l with _|Fb;simp[hv,hl]at h;simp only[hv,hl,zA]at h;subst h;obtain⟨h1,h2⟩:=O9 v u hv;obtain⟨h3,h4⟩:=OI l Fb hl;exact⟨by simp[S9,h1,h3],fun x=>bF.cons (h2 x) (h4 x)⟩
end
section
variable{x:Cx}{tm:List U}{tv:List Value}(ht:bF x tm tv)
include ht
theorem j8{o:Operand}{u:U}(h:c8 tm o=some u):∃v,evalO tv o=some v/\aD x u v:=by
 cases o with
 |tmp t=>simp only[c8,iZ]at h;obtain⟨v,h1,h2⟩:=ht.get h;exact⟨v,by simp[evalO,iZ,h1],h2⟩
 |const v=>obtain⟨h1,h2⟩:=O9 v u h;exact⟨v,by simp[evalO,h1],h2 x⟩
 |func f=>simp only[c8,zA]at h;subst h;exact⟨_,rfl,by simp only[aD];exact⟨[],[],rfl,by simp[cT],rfl,by simp[cT],rfl⟩⟩|global g=>simp[c8]at h
theorem OW{l:List Operand}{us:List U}(h:mB tm l=some us):∃vs,kM tv l=some vs/\bF x us vs:=by
 induction l generalizing us with|nil=>simp only[mB,zA]at h;subst h;exact⟨[],rfl,bF.nil x⟩|cons o l ih=>simp only[mB]at h;rcases h1:c8 tm o with _|u;simp[h1]at h;rcases h2:mB tm l with _|Fb;simp[h1,h2]at h;simp only[h1,h2,zA]at h;subst h;obtain⟨v,e1,r1⟩:=j8 ht h1;obtain⟨vs,e2,r2⟩:=ih h2;exact⟨v::vs,by simp[kM,e1,e2],bF.cons r1 r2⟩
inductive XR(x:Cx):List (Nat×U)->List (Nat×Value)->Prop
 |nil:XR x [] []
 |cons {i:Nat} {u:U} {v:Value} {l:List (Nat×U)} {m:List (Nat×Value)}:aD x u v->XR x l m->XR x ((i,u)::l) ((i,v)::m)
theorem na{l:List (Nat×Operand)}{us:List (Nat×U)}(h:AS tm l=some us):∃vs,IU tv l=some vs/\XR x us vs:=by
 induction l generalizing us with|nil=>simp only[AS,zA]at h;subst h;exact⟨[],rfl,.nil⟩|cons o l ih=>obtain⟨i,o⟩:=o;simp only[AS]at h;rcases h1:c8 tm o with _|u;simp[h1]at h;rcases h2:AS tm l with _|Fb;simp[h1,h2]at h;simp only[h1,h2,zA]at h;subst h;obtain⟨v,e1,r1⟩:=j8 ht h1;obtain⟨vs,e2,r2⟩:=ih h2;exact⟨(i,v)::vs,by simp[IU,e1,e2],.cons r1 r2⟩
theorem ng{o:Option Operand}{r:Option Value}(h:xS tm o=some r):rO tv o=some r:=by
 rcases o with _|o;simpa[xS,rO]using h;simp only[xS]at h;rcases h1:c8 tm o with _|u;simp[h1]at h;obtain⟨v,e1,r1⟩:=j8 ht h1;cases u with|int k n=>simp only[h1,zA]at h;simp only[aD]at r1;subst r1;subst h;simp[rO,e1]|_=>simp[h1]at h
end
variable{x:Cx}
variable{u:U}
variable{v:Value}
theorem UU{f:Value->Option Value}{r:U}(h:g1 f u=some r)(hr:aD x u v):∃rv,f v=some rv/\aD x r rv:=by
 unfold g1 at h;rcases h1:toV u with _|v0;simp[h1]at h;simp only[h1]at h;rcases h2:f v0 with _|rv;simp[h2]at h;simp only[h2]at h;rw[(AU u v0 h1 x v).1 hr];exact⟨rv,h2,(O9 rv r h).2 x⟩
theorem UT{f:Value->Value->Option Value}{a b r:U}{va vb:Value}(h:g2 f a b=some r)(ha:aD x a va)(hb:aD x b vb):∃rv,f va vb=some rv/\aD x r rv:=by
 unfold g2 at h;rcases h1:toV a with _|v1;simp[h1]at h;rcases h2:toV b with _|v2;simp[h1,h2]at h;simp only[h1,h2]at h;rcases h3:f v1 v2 with _|rv;simp[h3]at h;simp only[h3]at h;rw[(AU a v1 h1 x va).1 ha,(AU b v2 h2 x vb).1 hb];exact⟨rv,h3,(O9 rv r h).2 x⟩
theorem qv7(hr:aD x u v)(hn:okC u=true):v.oneCell'=true:=by
 cases u with
 |junk=>simp[okC]at hn|agg l=>simp[okC]at hn
 |tup l=>simp[okC]at hn|ptr k st off=>simp only[aD]at hr;exact hr.1
 |sl k off n c=>simp only[aD]at hr;exact hr.1|vl k st off n=>simp only[aD]at hr;exact hr.1
 |map k=>simp only[aD]at hr;exact hr.1|iptr l=>simp only[aD]at hr;obtain⟨_,_,_,_,rfl,_⟩:=hr;rfl
 |isl t l=>simp only[aD]at hr;rcases hr with⟨_,rfl |⟨_,rfl⟩⟩|⟨_,_,_,rfl,_⟩<;>rfl
 |fn f a b=>simp only[aD]at hr;obtain⟨_,_,rfl,_⟩:=hr;rfl
 |_=>simp only[aD]at hr;subst hr;rfl
variable{l:List U}
variable{vs:List Value}
theorem SO(hr:bF x l vs)(hk:okL l=true):sW vs=true:=by
 induction l generalizing vs with|nil=>rw[hr.nil_inv];rfl|cons u l ih=>obtain⟨v,vG,rfl,h1,h2⟩:=hr.inv;simp only[okL]at hk;obtain⟨k1,k2⟩:=MK hk;simp[sW,qv7 h1 k1,ih h2 k2]
theorem nh{cs:List U}(hr:aD x u v)(h:xT u=some cs):bF x cs v.cells.toList/\okL cs=true:=by
 have one:okC u=true->cs=[u]->bF x cs v.cells.toList/\okL cs=true:=fun h1 h2=>by
  subst h2;have:=qv7 hr h1;have e:v.cells= #[v]:=by cases v<;>first |rfl |(simp[Value.oneCell']at this)
  rw[e];exact⟨bF.cons hr (bF.nil x),by simp[okL,h1]⟩
 cases u with
 |junk=>simp[xT]at h|tup l=>simp[xT]at h
 |agg l=>simp only[xT,zA]at h;subst h;simp only[aD]at hr;obtain⟨vs,rfl,h1,h2,h3⟩:=hr;exact⟨⟨h1,h2⟩,h3⟩
 |_=>simp only[xT,zA]at h;exact one rfl h.symm
theorem zc3(h:aD x u v):aD x (Ln u) v:=by
 cases u with
 |nils=>simp only[Ln,aD]at*;exact .inl ⟨trivial,.inl h⟩|isl t l=>simp only[Ln,aD]at*;rcases h with h |⟨i,off,c,h1,h2,h3⟩;exact .inl h;exact .inr ⟨i,off,c,h1,(fun h=>by cases h),h3⟩
 |_=>exact h
theorem WD(u:U):okC (Ln u)=okC u:=by cases u<;>rfl
theorem wo:∀l:List U,(rN l).length=l.length
 |[]=>rfl|u::l=>by simp[rN,wo l]
theorem Fk:∀l:List U,okL (rN l)=okL l
 |[]=>rfl|u::l=>by simp[rN,okL,WD,Fk l]
theorem qzq{x:Cx}:∀{l:List U}{vs:List Value},cT x l vs->cT x (rN l) vs
 |[],vs,h=>by simp[rN,cT]
 |u::l,[],h=>by simp[cT]at h
 |u::l,v::vs,h=>by simp only[rN,cT]at*;exact⟨zc3 h.1,qzq h.2⟩
theorem Nz(h:bF x l vs):bF x (rN l) vs:=⟨qzq h.1,by rw[wo];exact h.2⟩
theorem zc2{X:Sg}{k:Nat}(h:bF x l vs):bF x (GU X k l) vs:=by
 unfold GU;split;exact Nz h;exact h
theorem WE(X:Sg)(k:Nat)(l:List U):okL (GU X k l)=okL l:=by
 unfold GU;split;exact Fk l;rfl
structure Out(x y:Cx):Prop where
 h:kF y
 mo:Mo x.X.nx x y
 fr:∀F,Fr F x->Fr F y
def nc:GZ:=fun _ _ _=>none
def sC(T:Tb)(x:Cx)(tv:List Value)(op:Op)(u:U)(X':Sg):Prop:=∃v y,AX T nc tv x.s op=some (v,y.s)/\y.X=X'/\aD y u v/\Out x y
theorem Mo.refl(n:Nat)(x:Cx):Mo n x x:=⟨fun k _ h2=>⟨h2,fun b hb=>⟨b,hb,zF _,fun _=>⟨rfl,fun l e sz st h=>⟨l,h⟩⟩⟩⟩,fun _ _ _ h=>h⟩
theorem Out.refl{x:Cx}(h:kF x):Out x x:=⟨h,Mo.refl _ _,fun _ h=>h⟩
variable{T:Tb}
variable{tv:List Value}
variable{op:Op}
theorem sC.same(hx:kF x)(h:AX T nc tv x.s op=some (v,x.s))(hr:aD x u v):sC T x tv op u x.X:=⟨v,x,h,rfl,hr,Out.refl hx⟩
variable{call:GZ}
variable{s:S}
theorem z81(h:iV T tv op=some v):AX T call tv s op=some (v,s):=by simp[AX,h]
theorem Ot(h0:iV T tv op=none)(h:nR T tv s op=some v):AX T call tv s op=some (v,s):=by simp[AX,h,h0]
theorem qyt{r:Value×S}(h0:iV T tv op=none)(h1:nR T tv s op=none)(h:u6 T tv s op=some r):AX T call tv s op=some r:=by simp[AX,h,h0,h1]
def bump(x:Cx):Cx:=⟨x.Y,x.X,⟨x.s.h,x.s.nx+1⟩⟩
theorem ax(n:Nat)(x:Cx):Mo n x (bump x):=⟨fun k _ h2=>⟨h2,fun b hb=>⟨b,hb,zF _,fun _=>⟨rfl,fun l e sz st h=>⟨l,h⟩⟩⟩⟩,fun _ _ _ h=>h⟩
theorem ft(h:aD x u v):aD (bump x) u v:=(ax x.X.nx x).ke u v (aD.bel u v h) h
theorem VT(h:bF x l vs):bF (bump x) l vs:=(ax x.X.nx x).ke.E h.bel h
theorem z6v(h:kF x):Out x (bump x):=by
 refine⟨⟨fun k b hb=>?_,h.inj,fun i b hb=>Nat.lt_succ_of_lt (h.bd i b hb)⟩,ax _ _,fun F J=>J⟩;obtain⟨h1,h2⟩:=h.ok k b hb;refine⟨h1,?_⟩;cases b with
 |row l e=>obtain⟨k1,i,l',e1,e2,e3⟩:=h2;exact⟨k1,i,l',e1,e2,VT e3⟩
 |vec l e sz st=>obtain⟨k1,k2,h3⟩:=h2;refine⟨k1,k2,?_⟩;rcases h3 with h3 |⟨i,l',e1,e2,e3⟩;exact .inl h3;exact .inr ⟨i,l',e1,e2,VT e3⟩
 |map es cl=>obtain⟨i,es',e1,e2,e3⟩:=h2;refine⟨i,es',e1,e2,e3.1,fun j e he=>?_⟩;obtain⟨v,q1,q2,q3,q4⟩:=e3.2 j e he;exact⟨v,q1,ft q2,ft q3,q4⟩
end Go.Vx
namespace Go.Vx
open Go Go.Rx
variable{l:List Value}
variable{n:Nat}
theorem z8o(h:n<=l.length):IR l n=some (l.take n):=by
 induction l generalizing n with
 |nil=>simp at h;subst h;simp[IR]|cons a l ih=>cases n with
  |zero=>simp[IR]|succ n=>simp[IR,ih (by simpa using h)]
variable{off:Nat}
theorem Nl(h:off+n<=l.length):xK l off n=some ((l.drop off).take n):=z8o (by simp;omega)
variable{vs:List Value}
theorem zbj(h:vs.length<=l.length):GL l vs=some (vs++l.drop vs.length):=by
 induction vs generalizing l with
 |nil=>simp[GL]|cons v vs ih=>cases l with
  |nil=>simp at h|cons a l=>simp[GL,ih (by simpa using h)]
theorem zbk(h:off+vs.length<=l.length):tZ l off vs=some (l.take off++(vs++l.drop (off+vs.length))):=by
 induction l generalizing off with
 |nil=>simp at h;obtain⟨rfl,rfl⟩:=h;simp[tZ,GL]
 |cons a l ih=>cases off with
  |zero=>simp only[tZ,Nat.zero_add]at*;rw[zbj h];simp|succ off=>simp[tZ,ih (off:=off) (by simp at h;omega),Nat.succ_add]
variable{l:List U}
theorem OP(h:okL l=true)(n:Nat):okL (l.take n)=true:=(OH _).2 fun u hu=>(OH l).1 h u (List.mem_of_mem_take hu)
theorem HA(h:okL l=true)(n:Nat):okL (l.drop n)=true:=(OH _).2 fun u hu=>(OH l).1 h u (List.mem_of_mem_drop hu)
theorem JB{a b:List U}(h:okL a=true)(h':okL b=true):okL (a++b)=true:=(OH _).2 fun u hu=>(yD.1 hu).elim ((OH a).1 h u) ((OH b).1 h' u)
variable{r:List U}
theorem SL(h:kS l off n=some r):off+n<=l.length/\r=(l.drop off).take n:=by
 unfold kS at h;split at h;simp at h;exact⟨by assumption,h.symm⟩;cases h
theorem qv8{vs:List U}(h:pU l off vs=some r):off+vs.length<=l.length/\r=l.take off++(vs++l.drop (off+vs.length)):=by
 unfold pU at h;split at h;simp at h;exact⟨by assumption,h.symm⟩;cases h
variable{x:Cx}
theorem wx{vs:List U}{lv vv:List Value}(h:pU l off vs=some r)(hl:bF x l lv)(hv:bF x vs vv):∃rv,tZ lv off vv=some rv/\bF x r rv/\(okL l=true->okL vs=true->okL r=true):=by
 obtain⟨h1,rfl⟩:=qv8 h;refine⟨_,zbk (by rw[<-hl.2,<-hv.2];exact h1),?_,fun a b=>JB (OP a _) (JB b (HA a _))⟩;rw[<-hv.2];exact(hl.take _).append (hv.append (hl.drop _))
theorem z5i{lv:List Value}(h:kS l off n=some r)(hl:bF x l lv):xK lv off n=some ((lv.drop off).take n)/\bF x r ((lv.drop off).take n):=by
 obtain⟨h1,rfl⟩:=SL h;exact⟨Nl (by rw[<-hl.2];exact h1),(hl.drop _).take _⟩
theorem Pa{x:Cx}{place:Nat->Option (Nat×Nat)}:∀{ps:List (Nat×U)}{pv:List (Nat×Value)}{cells r:List U}{cv:List Value},XR x ps pv->bF x cells cv->uT place cells ps=some r->∃rv,EX place cv pv=some rv/\bF x r rv
 |_,_,cells,r,cv,.nil,hc,h=>by simp only[uT,zA]at h;subst h;exact⟨cv,rfl,hc⟩
 |_,_,cells,r,cv,.cons (i:=i) (u:=u) (v:=v) (l:=l) (m:=m) hu hp,hc,h=>by simp only[uT]at h;rcases h1:place i with _|q;simp[h1]at h;obtain⟨off,size⟩:=q;simp only[h1]at h;rcases h2:xT u with _|cs;simp[h2]at h;simp only[h2]at h;obtain⟨c1,c2⟩:=nh hu h2;rcases h3:Nat.beq cs.length size with _|_;simp[h3]at h;simp only[h3,zC]at h;rcases h4:pU cells off cs with _|c;simp[h4]at h;simp only[h4]at h;obtain⟨rv,q1,q2,_⟩:=wx h4 hc c1;obtain⟨rv',q3,q4⟩:=Pa hp q2 h;exact⟨rv',by simp only[EX,h1];rw[<-c1.2,h3];simp only[zC,q1,q3],q4⟩
variable{T:Tb}
variable{t:TypeId}
variable{u:U}
theorem qz0{cs:List U}(h:qr T t cs off=some u)(hc:bF x cs vs)(hk:okL cs=true):∃v,GX T t vs off=some v/\aD x u v:=by
 unfold qr at h;unfold GX;rcases hd:T.und t with _|d;simp[hd]at h;simp only[hd]at h ⊢;cases ha:rP d with
 |true=>simp only[ha,zC]at h ⊢;rcases hs:cN T t with _|n;simp[hs]at h;simp only[hs,zA]at h ⊢;subst h;refine⟨_,rfl,?_⟩;simp only[aD];exact⟨_,rfl,((hc.drop off).take n).1,((hc.drop off).take n).2,OP (HA hk _) _⟩
 |false=>simp only[ha,zD,iZ]at h ⊢;exact hc.get h
theorem z24{ps:List (Nat×U)}{pv:List (Nat×Value)}(h:Fy T t ps=some u)(hp:XR x ps pv):∃v,Nv T t pv=some v/\aD x u v:=by
 unfold Fy at h;unfold Nv;rcases hi:T.inf t with _|q;simp[hi]at h;obtain⟨a,b,z⟩:=q;simp only[hi]at h ⊢;rcases hz:pV z.cells.toList with _|zu;simp[hz]at h;simp only[hz]at h;have uG:=(OI _ _ hz).2 x;rcases hd:T.und t with _|d;simp[hd]at h;cases d with
 |struct fs=>simp only[hd]at h ⊢;rcases hs:J0 T fs.toList with _|_;simp[hs]at h;simp only[hs,zC]at h ⊢;rcases hf:uT (MB T fs.toList) zu ps with _|cs;simp[hf]at h;simp only[hf]at h;rcases hk:okL cs with _|_;simp[hk]at h;simp only[hk,zC,zA]at h;subst h;obtain⟨rv,q1,q2⟩:=Pa hp uG hf;exact⟨.agg rv.toArray,by simp[q1],by simp only[aD];exact⟨rv,rfl,q2.1,q2.2,hk⟩⟩
 |array n e=>simp only[hd]at h ⊢;rcases hs:cN T e with _|sz;simp[hs]at h;simp only[hs]at h ⊢;rcases hf:uT (fun i=>some (i*sz,sz)) zu ps with _|cs;simp[hf]at h;simp only[hf]at h;rcases hk:okL cs with _|_;simp[hk]at h;simp only[hk,zC,zA]at h;subst h;obtain⟨rv,q1,q2⟩:=Pa hp uG hf;exact⟨.agg rv.toArray,by simp[q1],by simp only[aD];exact⟨rv,rfl,q2.1,q2.2,hk⟩⟩
 |_=>simp[hd]at h
variable{X:Sg}
variable{k:Nat}
theorem Pl{st:Nat}(h:bU X k st=true):∃b,gt X.h k=some b/\b.st=st:=by
 unfold bU at h;rcases hb:gt X.h k with _|b;simp[hb]at h;simp only[hb,beq_eq,decide_eq_true_eq]at h;exact⟨b,rfl,h⟩
variable{v:Value}
theorem YG{st:Nat}(hl:bU x.X k st=true)(hr:aD x (.ptr k st off) v):∃i,x.Y k=some i/\v=.pointer (some ⟨i,off,none⟩):=by
 obtain⟨b,h1,h2⟩:=Pl hl;simp only[aD]at hr;exact((hr.2.2 b h1).2 h2.symm)
theorem OK{c:Nat}(hl:bU x.X k 0=true)(hr:aD x (.sl k off n c) v):∃i,x.Y k=some i/\v=.slice (some ⟨i,off,none⟩) n c/\c<bX/\n<=c:=by
 obtain⟨b,h1,h2⟩:=Pl hl;simp only[aD]at hr;exact((hr.2.2 b h1).2 h2.symm)
theorem xp(hl:bU x.X k 0=true)(hr:aD x (.map k) v):∃i,x.Y k=some i/\v=.map (some i):=by
 obtain⟨b,h1,h2⟩:=Pl hl;simp only[aD]at hr;exact((hr.2.2 b h1).2 h2.symm)
theorem Y9{st:Nat}(hl:bU x.X k st=true)(hr:aD x (.vl k st off n) v):∃l e sz,gt x.X.h k=some (.vec l e sz st)/\LO off n v sz (x.Y k):=by
 obtain⟨b,h1,h2⟩:=Pl hl;simp only[aD]at hr;obtain⟨l,e,sz,rfl,h3⟩:=(hr.2.2 b h1).2 h2.symm;exact⟨l,e,sz,h1,h3⟩
theorem jh{st:Nat}{r:List U×TypeId×Nat}(h:wK X k st=some r):gt X.h k=some (.vec r.1 r.2.1 r.2.2 st)/\bU X k st=true:=by
 unfold wK at h;rcases hb:gt X.h k with _|b;simp[hb]at h;cases b with
 |vec l e sz cR=>simp only[hb,beq_eq]at h;by_cases bY:cR=st;subst bY;simp at h;subst h;exact⟨rfl,by simp[bU,hb,B.st]⟩;simp[bY]at h|_=>simp[hb]at h
theorem np(h:rowOf X k=some l):∃e,gt X.h k=some (.row l e)/\bU X k 0=true:=by
 unfold rowOf at h;rcases hb:gt X.h k with _|b;simp[hb]at h;cases b with
 |row l' e=>simp[hb]at h;subst h;exact⟨e,rfl,by simp[bU,hb,B.st]⟩|_=>simp[hb]at h
theorem co{sz:Nat}{o:Option Nat}(h:LO off n v sz o):∃a c,v=.slice a n c:=by
 cases o with
 |none=>obtain⟨_,rfl,o,rfl,_⟩:=h;exact⟨o,0,rfl⟩
 |some i=>rcases h with⟨_,rfl,a,c,rfl,_⟩|rfl<;>exact⟨_,_,rfl⟩
theorem dg(hx:kF x){st:Nat}(hl:bU x.X k st=true)(hr:aD x (.vl k st off n) v)(hn:0<n):
  ∃i l e sz l',gt x.X.h k=some (.vec l e sz st)/\x.Y k=some i/\v=.slice (some ⟨i,off*sz,none⟩) n (bX+off)/\lk x.s.h i=some (.inl (l',e,sz+2))/\bF x l l'/\0<sz/\okL l=true:=by
 obtain⟨l,e,sz,h1,h2⟩:=Y9 hl hr;obtain⟨_,k1,k2,h3⟩:=hx.ok k _ h1;rcases h3 with⟨_,h3⟩|⟨i,l',e1,e2,e3⟩;rw[h3]at h2;obtain⟨_,rfl,_⟩:=h2;omega;rw[e1]at h2;rcases h2 with⟨_,rfl,_⟩|h2;omega;exact⟨i,l,e,sz,l',h1,e1,h2,e2,e3,k2,k1⟩
theorem qzj(hx:kF x)(hr:aD x u v)(h:eK x.X u=k)(hk:k≠0):
  (k=1/\∃a,v=.pointer (some a))\/(k=2/\∃a n c,v=.slice (some a) n c)\/(k=3/\∃r,v=.map (some r)):=by
 cases u with
 |ptr k' st off=>simp only[eK]at h;rcases hl:bU x.X k' st with _|_;simp[hl]at h;omega;simp[hl]at h;obtain⟨i,_,rfl⟩:=YG hl hr;exact .inl ⟨h.symm,_,rfl⟩
 |iptr l=>simp only[eK]at h;simp only[aD]at hr;obtain⟨i,off,_,_,rfl,_⟩:=hr;exact .inl ⟨h.symm,_,rfl⟩
 |sl k' off n c=>simp only[eK]at h;rcases hl:bU x.X k' 0 with _|_;simp[hl]at h;omega;simp[hl]at h;obtain⟨i,_,rfl,_⟩:=OK hl hr;exact .inr (.inl ⟨h.symm,_,_,_,rfl⟩)
 |vl k' st off n=>cases n with|zero=>simp[eK]at h;omega|succ n=>simp only[eK]at h;rcases hl:bU x.X k' st with _|_;simp[hl]at h;omega;simp[hl]at h;obtain⟨i,l,e,sz,l',_,_,rfl,_⟩:=dg hx hl hr (Nat.succ_pos _);exact .inr (.inl ⟨h.symm,_,_,_,rfl⟩)
 |isl t l=>rcases l with _|⟨c,l⟩;simp[eK]at h;omega;simp only[eK]at h;simp only[aD]at hr;rcases hr with⟨hr,_⟩|⟨i,off,c',rfl,_⟩;cases hr;exact .inr (.inl ⟨h.symm,_,_,_,rfl⟩)
 |map k'=>simp only[eK]at h;rcases hl:bU x.X k' 0 with _|_;simp[hl]at h;omega;simp[hl]at h;obtain⟨i,_,rfl⟩:=xp hl hr;exact .inr (.inr ⟨h.symm,_,rfl⟩)
 |_=>simp[eK]at h;omega
theorem qrc(hr:aD x u v)(h:F5 u=k)(hk:k≠0):(k=1/\v=.pointer none)\/(k=2/\v=.slice none 0 0)\/(k=3/\v=.map none):=by
 cases u with
 |nilp=>simp only[F5]at h;simp only[aD]at hr;exact .inl ⟨h.symm,hr⟩|nils=>simp only[F5]at h;simp only[aD]at hr;exact .inr (.inl ⟨h.symm,hr⟩)
 |nilm=>simp only[F5]at h;simp only[aD]at hr;exact .inr (.inr ⟨h.symm,hr⟩)|_=>simp[F5]at h;omega
theorem z4d(hx:kF x){op:BinOp}{a b:U}{va vb:Value}(h:OA T x.X op t a b=some u)(ha:aD x a va)(hb:aD x b vb):∃v,pX T op t va vb=some v/\aD x u v:=by
 unfold OA at h;simp only[beq_eq]at h;by_cases h0:u9 T t=0;simp[h0]at h;simp only[h0,yB,zD]at h;have key:W7 op=some u->
   (u9 T t=1/\((∃p,va=.pointer (some p))/\vb=.pointer none\/va=.pointer none/\∃p,vb=.pointer (some p)))\/
   (u9 T t=2/\((∃p n c,va=.slice (some p) n c)/\vb=.slice none 0 0\/va=.slice none 0 0/\∃p n c,vb=.slice (some p) n c))\/
   (u9 T t=3/\((∃p,va=.map (some p))/\vb=.map none\/va=.map none/\∃p,vb=.map (some p)))->∃v,pX T op t va vb=some v/\aD x u v:=by
  intro nV hk;have yW:∀{k:Nat},u9 T t=k->k≠0->(k=1->∃e,T.und t=some (.pointer e))/\(k=2->∃e,T.und t=some (.slice e))/\(k=3->∃e e',T.und t=some (.map e e')):=by intro k hk Q1;unfold u9 at hk;rcases hd:T.und t with _|d;simp[hd]at hk;omega;cases d<;>simp[hd]at hk<;>subst hk<;>simp at Q1 ⊢
  rcases hk with⟨hk,hv⟩|⟨hk,hv⟩|⟨hk,hv⟩;obtain⟨e,he⟩:=(yW hk (by omega)).1 rfl;rcases hv with⟨⟨p,rfl⟩,rfl⟩|⟨rfl,p,rfl⟩<;>cases op<;>simp[W7]at nV<;>subst nV<;>simp[pX,wM,eqv,he,aD];obtain⟨e,he⟩:=(yW hk (by omega)).2.1 rfl;rcases hv with⟨⟨p,n,c,rfl⟩,rfl⟩|⟨rfl,p,n,c,rfl⟩<;>cases op<;>simp[W7]at nV<;>subst nV<;>simp[pX,wM,eqv,he,aD];obtain⟨e,e',he⟩:=(yW hk (by omega)).2.2 rfl;rcases hv with⟨⟨p,rfl⟩,rfl⟩|⟨rfl,p,rfl⟩<;>cases op<;>simp[W7]at nV<;>subst nV<;>simp[pX,wM,eqv,he,aD]
 by_cases h1:eK x.X a=u9 T t;by_cases h2:F5 b=u9 T t;simp only[h1,h2,yC,zC]at h;refine key h ?_;rcases qzj hx ha h1 h0 with⟨e1,q⟩|⟨e1,q⟩|⟨e1,q⟩<;>rcases qrc hb h2 h0 with⟨e2,q'⟩|⟨e2,q'⟩|⟨e2,q'⟩<;>first |omega |skip
 exact .inl ⟨e1,.inl ⟨q,q'⟩⟩;exact .inr (.inl ⟨e1,.inl ⟨q,q'⟩⟩);exact .inr (.inr ⟨e1,.inl ⟨q,q'⟩⟩);simp[h1,h2]at h;simp only[h1,yB,zD]at h;by_cases h2:F5 a=u9 T t;by_cases h3:eK x.X b=u9 T t;simp only[h2,h3,yC,zC]at h;refine key h ?_;rcases qzj hx hb h3 h0 with⟨e1,q⟩|⟨e1,q⟩|⟨e1,q⟩<;>rcases qrc ha h2 h0 with⟨e2,q'⟩|⟨e2,q'⟩|⟨e2,q'⟩<;>first |omega |skip
 exact .inl ⟨e1,.inr ⟨q',q⟩⟩;exact .inr (.inl ⟨e1,.inr ⟨q',q⟩⟩);exact .inr (.inr ⟨e1,.inr ⟨q',q⟩⟩);simp[h2,h3]at h;simp[h2]at h
theorem zag(hx:kF x){op:BinOp}{a b:U}{va vb:Value}(h:R4 T x.X op t a b=some u)(ha:aD x a va)(hb:aD x b vb):∃v,pX T op t va vb=some v/\aD x u v:=by
 unfold R4 at h;rcases h1:g2 (pX T op t) a b with _|r;simp only[h1]at h;exact z4d hx h ha hb;simp only[h1,zA]at h;subst h;exact UT h1 ha hb
variable{v:Value}
variable{n:Nat}
theorem F9{y y':Nat}(h:jQ v y=some n)(hy:y<=y'):jQ v y'=some n/\n<=y:=by
 unfold jQ at*;cases v with
 |int k i=>
  simp only at*;rcases h1:rW i (y+1)with _|_;simp[h1]at h;simp only[h1,zC,zA]at h;obtain⟨a,b⟩:=YH h1;have:rW i (y'+1)=true:=by
   unfold rW;cases i with
   |ofNat k=>simp at b ⊢;omega|negSucc k=>omega
  exact⟨by simp[this,h],by omega⟩
 |_=>simp at h
variable{c:Nat}
variable{lo:Option Value}
variable{hi:Option Value}
variable{l:Nat}
variable{h:Nat}
variable{m:Nat}
theorem SJ(hb:gZ n n lo hi none=some (l,h,m))(hc:n<=c):gZ n c lo hi none=some (l,h,c)/\l<=h/\h<=n/\m=n:=by
 unfold gZ at*;simp only at*;cases hi with
 |none=>
  simp only at*;cases lo with
  |none=>simp only[zA,zB]at hb ⊢;obtain⟨rfl,rfl,rfl⟩:=hb;simp
  |some v=>simp only at*;rcases h1:jQ v n with _|k;simp[h1]at hb;simp only[h1,zA,zB]at hb ⊢;obtain⟨rfl,rfl,rfl⟩:=hb;simp[(F9 h1 (zF _)).2]
 |some w=>
  simp only at*;rcases h2:jQ w n with _|k2;simp[h2]at hb;obtain⟨e2,e3⟩:=F9 h2 hc;simp only[h2,e2]at hb ⊢;cases lo with
  |none=>simp only[zA,zB]at hb ⊢;obtain⟨rfl,rfl,rfl⟩:=hb;simp[e3]
  |some v=>simp only at*;rcases h1:jQ v k2 with _|k;simp[h1]at hb;simp only[h1,zA,zB]at hb ⊢;obtain⟨rfl,rfl,rfl⟩:=hb;simp[(F9 h1 (zF _)).2,e3]
theorem Pd{vm:Value}(hb:gZ n n lo hi (some vm)=some (l,h,m)):jQ vm n=some m/\l<=h/\h<=m/\m<=n/\∀c,m<=c->gZ n c lo hi (some vm)=some (l,h,m):=by
 unfold gZ at*;simp only at*;rcases h0:jQ vm n with _|k0;simp[h0]at hb;simp only[h0]at hb;have e0:=(F9 h0 (zF _)).2;have grow:∀c,k0<=c->jQ vm c=some k0:=fun c hc=>by
  unfold jQ at*;cases vm with
  |int k i=>
   simp only at*;rcases h1:rW i (n+1)with _|_;simp[h1]at h0;simp only[h1,zC,zA]at h0;obtain⟨a,b⟩:=YH h1;have:rW i (c+1)=true:=by
    unfold rW;cases i with
    |ofNat k=>simp at h0 ⊢;omega|negSucc k=>omega
   simp[this,h0]
  |_=>simp at h0
 rcases hi with _|w;simp at hb;simp only at*;rcases h2:jQ w k0 with _|k2;simp[h2]at hb;have e3:=(F9 h2 (zF _)).2;simp only[h2]at hb;cases lo with
 |none=>simp only[zA,zB]at hb;obtain⟨rfl,rfl,rfl⟩:=hb;exact⟨rfl,by omega,e3,e0,fun c hc=>by simp[grow c hc,h2]⟩
 |some v=>simp only at*;rcases h1:jQ v k2 with _|k;simp[h1]at hb;simp only[h1,zA,zB]at hb;obtain⟨rfl,rfl,rfl⟩:=hb;exact⟨rfl,(F9 h1 (zF _)).2,e3,e0,fun c hc=>by simp[grow c hc,h2,h1]⟩
variable{mx:Option Value}
theorem z6s(hb:gZ n c lo hi mx=some (l,h,m)):l<=h/\m<=c:=by
 unfold gZ at hb;cases mx with
 |none=>
  simp only at hb;cases hi with
  |none=>simp only at hb;rcases lo with _|v;simp only[zA,zB]at hb;omega;simp only at hb;rcases h1:jQ v n with _|k;simp[h1]at hb;simp only[h1,zA,zB]at hb;have:=(F9 h1 (zF _)).2;omega
  |some w=>simp only at hb;rcases h2:jQ w c with _|k2;simp[h2]at hb;simp only[h2]at hb;rcases lo with _|v;simp only[zA,zB]at hb;omega;simp only at hb;rcases h1:jQ v k2 with _|k;simp[h1]at hb;simp only[h1,zA,zB]at hb;have:=(F9 h1 (zF _)).2;omega
 |some vm=>simp only at hb;rcases h0:jQ vm c with _|k0;simp[h0]at hb;have e0:=(F9 h0 (zF _)).2;simp only[h0]at hb;rcases hi with _|w;simp at hb;simp only at hb;rcases h2:jQ w k0 with _|k2;simp[h2]at hb;simp only[h2]at hb;rcases lo with _|v;simp only[zA,zB]at hb;omega;simp only at hb;rcases h1:jQ v k2 with _|k;simp[h1]at hb;simp only[h1,zA,zB]at hb;have:=(F9 h1 (zF _)).2;omega
theorem z6t(hb:gZ n c lo hi mx=some (l,h,m))(hn:n<=c):h<=m:=by
 unfold gZ at hb;cases mx with
 |none=>
  simp only at hb;cases hi with
  |none=>simp only at hb;rcases lo with _|v;simp only[zA,zB]at hb;omega;simp only at hb;rcases h1:jQ v n with _|k;simp[h1]at hb;simp only[h1,zA,zB]at hb;omega
  |some w=>simp only at hb;rcases h2:jQ w c with _|k2;simp[h2]at hb;have:=(F9 h2 (zF _)).2;simp only[h2]at hb;rcases lo with _|v;simp only[zA,zB]at hb;omega;simp only at hb;rcases h1:jQ v k2 with _|k;simp[h1]at hb;simp only[h1,zA,zB]at hb;omega
 |some vm=>simp only at hb;rcases h0:jQ vm c with _|k0;simp[h0]at hb;simp only[h0]at hb;rcases hi with _|w;simp at hb;simp only at hb;rcases h2:jQ w k0 with _|k2;simp[h2]at hb;have:=(F9 h2 (zF _)).2;simp only[h2]at hb;rcases lo with _|v;simp only[zA,zB]at hb;omega;simp only at hb;rcases h1:jQ v k2 with _|k;simp[h1]at hb;simp only[h1,zA,zB]at hb;omega
theorem xm{x:Cx}{sz:Nat}:∀{l:List (List U)}{vs:List Value},iO x sz l vs->∀(i:Nat)(c:List U),l[i]? = some c->c.length=sz/\okL c=true/\cT x c (vs.drop (i*sz))
 |[],vs,h,i,c,hc=>by simp at hc
 |d::l,vs,h,i,c,hc=>by
  simp only[iO]at h;cases i with
  |zero=>simp at hc;subst hc;exact⟨h.1,h.2.1,by simpa using h.2.2.1⟩|succ i=>simp at hc;have:=xm h.2.2.2 i c hc;rw[List.drop_drop]at this;rw[Nat.succ_mul,Nat.add_comm];exact this
theorem z57{x:Cx}{sz:Nat}:∀{l:List (List U)}{vs:List Value},(∀(i:Nat)(c:List U),l[i]? = some c->c.length=sz/\okL c=true/\cT x c (vs.drop (i*sz)))->iO x sz l vs
 |[],vs,h=>by simp[iO]
 |d::l,vs,h=>by simp only[iO];have h0:=h 0 d rfl;refine⟨h0.1,h0.2.1,by simpa using h0.2.2,z57 fun i c hc=>?_⟩;have:=h (i+1) c (by simpa using hc);rw[List.drop_drop];rw[Nat.succ_mul,Nat.add_comm]at this;exact this
theorem z73{O:Type}(l:List O)(a h i:Nat):(pW l a h)[i]? = if a+i<h then l[a+i]? else none:=by
 unfold pW;rw[List.getElem?_drop,List.getElem?_take]
variable{a:Nat}
theorem qxy{O:Type}{l:List O}(hh:h<=l.length):(pW l a h).length=h-a:=by simp[pW];omega
variable{x:Cx}
variable{sz:Nat}
theorem z8b{l:List (List U)}{vs:List Value}(hr:iO x sz l vs):iO x sz (pW l a h) (vs.drop (a*sz)):=by
 refine z57 fun i c hc=>?_;rw[z73]at hc;split at hc;have:=xm hr _ _ hc;rw[List.drop_drop];rw[Nat.add_mul]at this;exact this;cases hc
theorem z8v{l:List (List U)}(h:(l.all fun c=>Nat.beq c.length sz)=true):∀c∈l,c.length=sz:=fun c hc=>by
 have:=List.all_eq_true.1 h c hc;simpa[beq_eq]using this
theorem z58{iY:Nat}{l:List (List U)}{vs:List Value}(hr:iO x sz l vs)(cZ:l≠[])(h:(l.all fun c=>Nat.beq c.length iY)=true):sz=iY:=by
 rcases l with _|⟨c,l⟩;exact absurd rfl cZ;rw[<-(xm hr 0 c rfl).1];exact z8v h c (by simp)
theorem xl{x:Cx}{sz:Nat}:∀{l:List (List U)}{vs:List Value},iO x sz l vs->l.length*sz<=vs.length
 |[],vs,h=>by simp
 |d::l,vs,h=>by simp only[iO]at h;have h1:=cT.len h.2.2.1;have h2:=xl h.2.2.2;rw[List.length_drop]at h2;rw[zO,Nat.succ_mul];omega
theorem qvs{x:Cx}{sz:Nat}:∀{l:List (List U)}{vs:List Value},iO x sz l vs->bF x l.flatten (vs.take (l.length*sz))/\okL l.flatten=true
 |[],vs,h=>by simpa[okL]using bF.nil x
 |d::l,vs,h=>by
  have b7:=xl h;simp only[iO]at h;obtain⟨h1,h2,h3,h4⟩:=h;obtain⟨g1,g2⟩:=qvs h4;refine⟨?_,by simpa using JB h2 g2⟩;have e:vs.take ((d::l).length*sz)=vs.take d.length++(vs.drop sz).take (l.length*sz):=by rw[zO,Nat.succ_mul,Nat.add_comm,List.take_add,h1]
  rw[e,List.flatten_cons];exact h3.takeE.append g1
def qxi(T:Tb)(x:Cx)(t:TypeId)(u:U)(va:Value)(lo hi mx:Option Value):Prop :=
 (∃v,nT T t va lo hi mx=some v/\aD x u v)\/(nT T t va lo hi mx=none/\∃v,H3 T x.s t va lo hi mx=some v/\aD x u v)\/ (nT T t va lo hi mx=none/\H3 T x.s t va lo hi mx=none/\∃v,Fm T x.s t va lo hi mx=some (v,(bump x).s)/\aD (bump x) u v)
theorem oQ{b:Nat}(h:a<b):Nat.blt a b=true:=Nat.ble_eq_true_of_le h
theorem H8{b:Nat}(h:¬ a<b):Nat.blt a b=false:=by
 rcases hb:Nat.blt a b with _|_;rfl;exact absurd (J8 hb) h
variable{T:Tb}
variable{t:TypeId}
variable{e:TypeId}
variable{i:Nat}
variable{off:Nat}
variable{row:List Value}
theorem qq0(hd:T.und t=some (.slice e))(hs:cN T e=some sz)(dR:0<sz){d:Nat}(hn:0<n)(eH:off=d*sz)(gW:EY x.s i sz=some row)
  (b7:off+n*sz<=row.length) (hb:gZ n n lo hi none=some (l,h,m)):
  let va:=Value.slice (some ⟨i,off,none⟩) n (bX+d)
  nT T t va lo hi none=none/\(if l<h\/l=0 then H3 T x.s t va lo hi none=some (.slice (some ⟨i,(d+l)*sz,none⟩) (h-l) (bX+(d+l)))
   else H3 T x.s t va lo hi none=none/\Fm T x.s t va lo hi none=some (.slice (some ⟨x.s.nx,0,none⟩) 0 bX,(bump x).s)):=by
 have hc:Nat.blt (bX+d) bX=false:=H8 (by omega);obtain⟨n',rfl⟩:∃q,n=q+1:=⟨n-1,by omega⟩;have B7:bQ (bX+d)=d:=by simp[bQ]
 have xA:n'+1<=(row.length-off)/sz:=by rw[Nat.le_div_iff_mul_le dR];omega
 obtain⟨b1,b2,b3,_⟩:=SJ hb xA;have KI:Nat.ble (off+h*sz) row.length=true:=Nat.ble_eq_true_of_le (by have:h*sz<=(n'+1)*sz:=Nat.mul_le_mul_right _ b3;omega);refine⟨by simp[nT,hd,hc,emptyS],?_⟩;have KJ:Nat.beq off (d*sz)=true:=by simp[eH]
 have fC:Nat.blt 0 sz=true:=oQ dR;cases l with
 |zero=>simp only[or_true,if_true];simp only[H3,hd,hc,zD,hs,gW,B7,KJ,zC,fC,b1,KI];simp[eH]|succ l=>
  by_cases aE:l+1<h;simp only[aE,true_or,if_true];simp only[H3,hd,hc,zD,hs,gW,B7,KJ,zC,fC,b1,KI,oQ aE];simp[eH,Nat.add_mul,Nat.add_assoc];have:¬ (l+1<h\/l+1=0):=by omega
  simp only[this,if_false];simp only[H3,Fm,hd,hc,zD,hs,gW,B7,KJ,zC,fC,b1,KI,H8 aE];simp[bump]
theorem qtg(hd:T.und t=some (.slice e))(hs:cN T e=some sz)(dR:0<sz){d:Nat}(hn:0<n)(eH:off=d*sz)(gW:EY x.s i sz=some row)
  (b7:off+n*sz<=row.length) {vm:Value} (hb:gZ n n lo hi (some vm)=some (l,h,m)) (hm:m<bX):
  let va:=Value.slice (some ⟨i,off,none⟩) n (bX+d)
  nT T t va lo hi (some vm)=none/\H3 T x.s t va lo hi (some vm)=some (.slice (some (cond (Nat.beq m l) ⟨i,off,none⟩ ⟨i,off+l*sz,none⟩)) (h-l) (m-l)):=by
 have hc:Nat.blt (bX+d) bX=false:=H8 (by omega);obtain⟨n',rfl⟩:∃q,n=q+1:=⟨n-1,by omega⟩;have B7:bQ (bX+d)=d:=by simp[bQ]
 have xA:n'+1<=(row.length-off)/sz:=by rw[Nat.le_div_iff_mul_le dR];omega
 obtain⟨b0,b1,b2,b3,b4⟩:=Pd hb;have Wy:=(F9 b0 xA).1;have KI:Nat.ble (off+m*sz) row.length=true:=Nat.ble_eq_true_of_le (by have:m*sz<=(n'+1)*sz:=Nat.mul_le_mul_right _ b3;omega);refine⟨by simp[nT,hd,hc,emptyS],?_⟩;have KJ:Nat.beq off (d*sz)=true:=by simp[eH]
 have fC:Nat.blt 0 sz=true:=oQ dR;simp only[H3,hd,hc,zD,hs,gW,B7,KJ,zC,fC,Wy,KI,b4 m (zF _),oQ hm]
theorem z04{s:S}{l:List Value}(h:lk s.h i=some (.inl (l,e,sz+2))):EY s i sz=some l:=by simp[EY,h]
theorem qqy{s:S}{l:List Value}(h:lk s.h i=some (.inl (l,sz+1,1))):EY s i sz=some l:=by simp[EY,h]
variable{k:Nat}
variable{iH:Nat}
theorem za1{n' c':Nat}(hr:aD x (.sl k off n c) v)(hi:x.Y k=some i)(hc:c'<bX)(hn:n'<=c'):aD x (.sl k iH n' c') (.slice (some ⟨i,iH,none⟩) n' c'):=by
 simp only[aD]at*;exact⟨rfl,hr.2.1,fun b hb=>⟨(hr.2.2 b hb).1,fun _=>⟨i,hi,rfl,hc,hn⟩⟩⟩
theorem z59{st:Nat}(hr:aD x (.ptr k st off) v)(hi:x.Y k=some i):aD x (.ptr k st iH) (.pointer (some ⟨i,iH,none⟩)):=by
 simp only[aD]at*;exact⟨rfl,hr.2.1,fun b hb=>⟨(hr.2.2 b hb).1,fun _=>⟨i,hi,rfl⟩⟩⟩
theorem Nn{st n':Nat}{l:List U}{v':Value}(hr:aD x (.vl k st off n) v)(hb:gt x.X.h k=some (.vec l e sz st))(h1:v'.oneCell'=true)(h:LO iH n' v' sz (x.Y k)):aD x (.vl k st iH n') v':=by
 simp only[aD]at*;refine⟨h1,hr.2.1,fun b cU=>⟨(hr.2.2 b cU).1,fun _=>?_⟩⟩;rw[hb]at cU;cases cU;exact⟨l,e,sz,rfl,h⟩
theorem GF:Nat.blt 0 bX=true:=oQ (by simp[bX])
theorem kx(hb:gZ 0 0 lo hi mx=some (l,h,m)):l=0/\h=0/\m=0:=by
 cases mx with
 |none=>obtain⟨_,b2,b3,b4⟩:=SJ hb (zF _);omega
 |some vm=>obtain⟨_,b2,b3,b4,_⟩:=Pd hb;omega
theorem Y6{t:Bool}{l:List (List U)}(hg:lk x.s.h i=some (.inl (row,e,1)))(hr:iO x sz l (row.drop off))(hh:h<=l.length)(eH:a<h->iH=off+a*sz)
  (ht:t=true->c=h-a/\c<bX) (hc:a<h->(c<bX/\h-a<=c)\/(bX<=c/\e=sz+1/\0<sz/\iH=bQ c*sz)):aD x (.isl t (pW l a h)) (.slice (some ⟨i,iH,none⟩) (h-a) c):=by
 have b7:=qxy (a:=a) hh;simp only[aD];refine .inr ⟨i,iH,c,by rw[b7],by rw[b7];exact ht,?_⟩;by_cases aE:a<h;have e1:row.drop iH=(row.drop off).drop (a*sz):=by rw[List.drop_drop,eH aE]
 have Cc:=z8b (a:=a) (h:=h) hr;rw[<-e1]at Cc;refine .inr ⟨row,e,sz,hg,Cc,?_⟩;rw[b7];rcases hc aE with hc |⟨c1,c2,c3,c4⟩;exact .inl hc;refine .inr ⟨c1,c2,c3,c4,?_⟩;have:=xl Cc;rw[b7,List.length_drop]at this;have fC:0<(h-a)*sz:=Nat.mul_pos (by omega) c3;omega;exact .inl (List.eq_nil_of_length_eq_zero (by rw[b7];omega))
theorem z5n(hd:T.und t=some (.slice e))(hs:cN T e=some sz){tt:Bool}{l:List (List U)}{u:U}{va:Value}(cP:(l.all fun c=>Nat.beq c.length sz)=true)
  (hb:gZ l.length l.length lo hi mx=some (a,h,m)) (hu:match mx with
   |some _=>m<bX/\u=.isl (Nat.beq m h) (pW l a h)|none=>u=.isl (cond tt (Nat.beq h l.length) false) (pW l a h)) (ha:aD x (.isl tt l) va):qxi T x t u va lo hi mx:=by
 simp only[aD]at ha;rcases ha with⟨rfl,rfl |⟨r,rfl⟩⟩|⟨i,off,c,rfl,ht,dA⟩;obtain⟨rfl,rfl,rfl⟩:=kx hb;refine .inl ⟨.slice none 0 0,by simp only[zS]at hb;simp[nT,hd,hb,hs,GF],?_⟩;rcases mx with _|vm;simp only at hu;subst hu;simp[aD,pW];simp only at hu;rw[hu.2];simp[aD,pW];obtain⟨rfl,rfl,rfl⟩:=kx hb;refine .inl ⟨.chan (some r),by simp only[zS]at hb;simp[nT,hd,hb,hs],?_⟩;rcases mx with _|vm;simp only at hu;subst hu;simp[aD,pW];simp only at hu;rw[hu.2];simp[aD,pW];by_cases cZ:l=[];subst cZ;obtain⟨rfl,rfl,rfl⟩:=kx hb;simp only[zS]at hb ht;have fin:∀(t':Bool)(iH c':Nat),(t'=true->c'=0)->aD x (.isl t' (pW [] 0 0)) (.slice (some ⟨i,iH,none⟩) 0 c'):=fun t' iH c' h1=>by simp only[aD];exact .inr ⟨i,iH,c',by simp[pW],fun h=>by rw[h1 h];simp[pW,bX],.inl (by simp[pW])⟩
 by_cases hc:c<bX;cases mx with
 |none=>
  simp only[zS]at hu;subst hu;obtain⟨b1,_⟩:=SJ hb (Nat.zero_le c);have v4:(cond tt (Nat.beq 0 0) false=true)->c=0:=fun h=>(ht (by cases tt<;>simp_all)).1;cases vZ:Nat.beq c 0 with
  |true=>exact .inl ⟨_,by simp only[zS,nT,hd,oQ hc,zC,b1,hs,vZ]<;>rfl,fin _ off c v4⟩|false=>exact .inl ⟨_,by simp only[zS,nT,hd,oQ hc,zC,zD,b1,hs,vZ]<;>rfl,fin _ _ c v4⟩
 |some vm=>simp only at hu;obtain⟨_,_,_,_,b4⟩:=Pd hb;rw[hu.2];exact .inl ⟨_,by simp only[zS,nT,hd,oQ hc,zC,b4 c (Nat.zero_le _),hs]<;>rfl,fin _ off 0 (fun _=>rfl)⟩
 cases mx with|none=>simp only[zS]at hu;subst hu;exact .inl ⟨_,by simp only[zS,nT,hd,H8 hc,zD,emptyS,hb,hs]<;>rfl,fin _ off c (fun h=>absurd (ht (by cases tt<;>simp_all)).2 hc)⟩|some vm=>simp only at hu;rw[hu.2];exact .inl ⟨_,by simp only[zS,nT,hd,H8 hc,zD,emptyS,hb,hs]<;>rfl,fin _ off 0 (fun _=>rfl)⟩
 rcases dA with dA |⟨row,e',iY,g1,g2,g3⟩;exact absurd dA cZ;have dR:=z58 g2 cZ cP;subst dR;have fC:0<l.length:=by cases l<;>simp_all
 rcases g3 with⟨hc,gi⟩|⟨hc,he,hz,eH,b7⟩;cases mx with
 |none=>
  simp only at hu;subst hu;obtain⟨b1,b2,b3,b4⟩:=SJ hb gi;have v4:(cond tt (Nat.beq h l.length) false=true)->c-a=h-a/\c-a<bX:=fun hh=>by rcases tt with _|_;simp at hh;simp at hh;have:=(ht rfl).1;omega
  cases vZ:Nat.beq c a with
  |true=>
   have:c=a:=by simpa[beq_eq]using vZ
   exact .inl ⟨_,by simp only[nT,hd,oQ hc,zC,b1,hs,vZ]<;>rfl,Y6 g1 g2 b3 (fun h1=>by omega) v4 (fun h1=>by omega)⟩
  |false=>exact .inl ⟨_,by simp only[nT,hd,oQ hc,zC,zD,b1,hs,vZ]<;>rfl,Y6 g1 g2 b3 (fun h1=>rfl) v4 (fun h1=>.inl (by omega))⟩
 |some vm=>
  simp only at hu;rw[hu.2];obtain⟨b0,b1,b2,b3,b4⟩:=Pd hb;have v4:Nat.beq m h=true->m-a=h-a/\m-a<bX:=fun hh=>by simp at hh;omega
  cases vZ:Nat.beq m a with
  |true=>
   have:m=a:=by simpa[beq_eq]using vZ
   exact .inl ⟨_,by simp only[nT,hd,oQ hc,zC,b4 c (by omega),hs,vZ]<;>rfl,Y6 g1 g2 (by omega) (fun h1=>by omega) v4 (fun h1=>by omega)⟩
  |false=>exact .inl ⟨_,by simp only[nT,hd,oQ hc,zC,zD,b4 c (by omega),hs,vZ]<;>rfl,Y6 g1 g2 (by omega) (fun h1=>rfl) v4 (fun h1=>.inl (by omega))⟩
 obtain⟨d,rfl⟩:∃d,c=bX+d:=⟨c-bX,by omega⟩;have B7:bQ (bX+d)=d:=by simp[bQ]
 rw[B7]at eH;subst he;have htt:tt=false:=by rcases tt with _|_;rfl;exact absurd (ht rfl).2 (by omega)
 subst htt;cases mx with
 |none=>simp only[zD]at hu;subst hu;obtain⟨b1,b2,b3,b4⟩:=SJ hb (zF _);obtain⟨s1,s2⟩:=qq0 hd hs hz (i:=i) (n:=l.length) (d:=d) fC eH (qqy g1) b7 hb;split at s2;exact .inr (.inl ⟨s1,_,s2,Y6 g1 g2 b3 (fun _=>by rw[eH,Nat.add_mul]) (fun h=>by cases h) (fun _=>.inr ⟨by omega,rfl,hz,by simp[bQ]⟩)⟩);refine .inr (.inr ⟨s1,s2.1,_,s2.2,?_⟩);have hn:(pW l a h)=[]:=List.eq_nil_of_length_eq_zero (by rw[qxy b3];omega);rw[hn];simp only[aD];exact .inr ⟨x.s.nx,0,bX,rfl,(fun h=>by cases h),.inl trivial⟩
 |some vm=>
  simp only at hu;rw[hu.2];obtain⟨b0,b1,b2,b3,b4⟩:=Pd hb;obtain⟨s1,s2⟩:=qtg hd hs hz (i:=i) (n:=l.length) (d:=d) fC eH (qqy g1) b7 hb hu.1;have v4:Nat.beq m h=true->m-a=h-a/\m-a<bX:=fun hh=>by simp at hh;omega
  cases vZ:Nat.beq m a with
  |true=>
   have:m=a:=by simpa[beq_eq]using vZ
   rw[vZ,zC]at s2;exact .inr (.inl ⟨s1,_,s2,Y6 g1 g2 (by omega) (fun h1=>by omega) v4 (fun h1=>by omega)⟩)
  |false=>rw[vZ,zD]at s2;exact .inr (.inl ⟨s1,_,s2,Y6 g1 g2 (by omega) (fun h1=>rfl) v4 (fun h1=>.inl (by omega))⟩)
theorem z5o(hx:kF x){a u:U}{va:Value}(h:IZ T x.X t a lo hi mx=some u)(ha:aD x a va):qxi T x t u va lo hi mx:=by
 unfold IZ at h;rcases hd:T.und t with _|d;simp[hd]at h;cases d with
 |string=>
  simp only[hd]at h;cases a with
  |str s=>cases mx with|some _=>simp at h|none=>simp only at h;rcases hb:gZ s.length s.length lo hi none with _|q;simp[hb]at h;obtain⟨l,hh,m⟩:=q;simp only[hb,zA]at h;subst h;simp only[aD]at ha;subst ha;exact .inl ⟨.string ⟨((s.take hh).drop l).toArray⟩,by simp[nT,hd,hb],by simp[aD,pW]⟩
  |_=>simp at h
 |slice e=>
  simp only[hd]at h;rcases hs:cN T e with _|sz;simp[hs]at h;simp only[hs]at h;cases a with
  |nils=>simp only at h;simp only[aD]at ha;subst ha;rcases hb:gZ 0 0 lo hi mx with _|q;simp[hb]at h;obtain⟨l,hh,m⟩:=q;simp only[hb,zA]at h;subst h;obtain⟨rfl,rfl,rfl⟩:=kx hb;exact .inl ⟨.slice none 0 0,by simp[nT,hd,hb,hs,GF],by simp[aD]⟩
  |sl k off n c=>
   simp only at h;rcases hl:bU x.X k 0 with _|_;simp[hl]at h;simp only[hl,zC]at h;rcases hb:gZ n c lo hi mx with _|q;simp[hb]at h;obtain⟨l,hh,m⟩:=q;simp only[hb,zA]at h;subst h;obtain⟨i,jA,rfl,hc,v7⟩:=OK hl ha;obtain⟨_,hmc⟩:=z6s hb;have hhm:=z6t hb v7;cases vZ:Nat.beq m l with
   |true=>exact .inl ⟨_,by simp only[nT,hd,oQ hc,zC,hb,hs,vZ]<;>rfl,za1 ha jA (by omega) (by omega)⟩|false=>exact .inl ⟨_,by simp only[nT,hd,oQ hc,zC,zD,hb,hs,vZ]<;>rfl,za1 ha jA (by omega) (by omega)⟩
  |vl k st off n=>
   simp only at h;rcases hv:wK x.X k st with _|q;simp[hv]at h;obtain⟨r,e',iY⟩:=q;obtain⟨hg,hl⟩:=jh hv;simp only[hv,beq_eq]at h;by_cases hz:iY=sz;subst hz;simp only[yC,zC]at h;cases mx with
   |some _=>simp at h|none=>
    simp only at h;rcases hb:gZ n n lo hi none with _|q;simp[hb]at h;obtain⟨l,hh,m⟩:=q;simp only[hb]at h;split at h;rename_i b7;simp only[zA]at h;subst h;obtain⟨l0,e0,Nd,Q4,uH⟩:=Y9 hl ha;have hgg:(some (B.vec r e' iY st))=some (.vec l0 e0 Nd st):=hg.symm.trans Q4;cases hgg;obtain⟨_,k1,k2,h3⟩:=hx.ok k _ hg;have zero:∀o c,n=0->va=.slice o 0 c->(∀a,o=some a->a.spot=none)->(o=none->c=0)->∃o' c',nT T t va lo hi none=some (.slice o' 0 c')/\(c=0->c'=0)/\(∀a,o'=some a->a.spot=none)/\(o=none->o'=none)/\(∀a,o=some a->∃a',o'=some a')/\(¬ c<bX->o'=o/\c'=c):=by
     rintro o c rfl rfl v5 ho;obtain⟨b1,b2,b3,b4⟩:=SJ hb (Nat.zero_le c);obtain rfl:hh=0:=by omega
     obtain rfl:l=0:=by omega
     by_cases hc:c<bX;rcases o with _|a;exact⟨none,c,by simp[nT,hd,oQ hc,b1,hs],by simp,by simp,by simp,by simp,fun hn=>absurd hc hn⟩;rcases vZ:Nat.beq c 0 with _|_;exact⟨some ⟨a.block,a.off+0*iY,none⟩,c,by simp only[nT,hd,oQ hc,b1,hs,vZ,zC,zD,Nat.sub_zero],by simp,by simp,by simp,by simp,fun hn=>absurd hc hn⟩;exact⟨some a,c,by simp only[nT,hd,oQ hc,b1,hs,vZ,zC,Nat.sub_zero],by simp,by simpa using v5 a rfl,by simp,by simp,fun hn=>absurd hc hn⟩;rcases o with _|a;exact absurd (by rw[ho rfl];simp[bX]) hc;obtain rfl:m=0:=by omega
     exact⟨some a,c,by simp only[nT,hd,H8 hc,zD,emptyS,hb,hs],by simp,by simpa using v5 a rfl,by simp,by simp,fun _=>⟨rfl,rfl⟩⟩
    have N6:n=0->l=0/\hh=0:=fun gh=>by obtain⟨b1,b2,b3,b4⟩:=SJ hb (zF _);omega
    rcases h3 with⟨hr0,kO⟩|⟨i,l',e1,e2,e3⟩;rw[kO]at uH;obtain⟨rfl,rfl,o,rfl,v5⟩:=uH;obtain⟨rfl,rfl⟩:=N6 rfl;obtain⟨o',c',q1,q2,q3,q4,q5,q6⟩:=zero o 0 rfl rfl v5 (fun _=>rfl);rw[q2 rfl]at q1;exact .inl ⟨_,q1,Nn ha hg rfl (by rw[kO];exact⟨rfl,rfl,o',rfl,q3⟩)⟩;rw[e1]at uH;rcases uH with⟨h0,rfl,a,c,rfl,v5⟩|rfl;obtain⟨rfl,rfl⟩:=N6 rfl;obtain⟨o',c',q1,q2,q3,q4,q5,q6⟩:=zero (some a) c rfl rfl (by simpa using v5) (by simp);obtain⟨a',rfl⟩:=q5 a rfl;exact .inl ⟨_,q1,Nn ha hg rfl (by rw[e1];exact .inl ⟨by omega,rfl,a',c',rfl,q3 a' rfl⟩)⟩;by_cases hn:n=0;subst hn;obtain⟨rfl,rfl⟩:=N6 rfl;obtain⟨o',c',q1,q2,q3,q4,q5,q6⟩:=zero (some ⟨i,off*iY,none⟩) (bX+off) rfl rfl (by simp) (by simp);obtain⟨rfl,rfl⟩:=q6 (by omega);exact .inl ⟨_,q1,Nn ha hg rfl (by rw[e1];exact .inr rfl)⟩;have:=qq0 hd hs k2 (i:=i) (n:=n) (d:=off) (by omega) rfl (z04 e2) (by rw[<-e3.2,<-Nat.add_mul];exact b7) hb;obtain⟨s1,s2⟩:=this;split at s2;exact .inr (.inl ⟨s1,_,s2,Nn ha hg rfl (by rw[e1];exact .inr rfl)⟩);rename_i aE;obtain⟨b1,b2,b3,b4⟩:=SJ hb (zF _);refine .inr (.inr ⟨s1,s2.1,_,s2.2,?_⟩);have cU:=ft ha;have H_:hh-l=0:=by omega
    rw[H_];exact Nn (x:=bump x) cU hg rfl (by show LO _ _ _ _ (x.Y k);rw[e1];exact .inl ⟨by omega,rfl,_,_,rfl,rfl⟩);cases h
   simp[hz]at h
  |isl tt l=>simp only at h;split at h;rename_i cP;rcases hb:gZ l.length l.length lo hi mx with _|q;simp[hb]at h;obtain⟨a,hh,m⟩:=q;simp only[hb]at h;refine z5n hd hs (tt:=tt) cP hb ?_ ha;rcases mx with _|vm;simp only[zA]at h ⊢;exact h.symm;simp only at h ⊢;split at h;rename_i hm;simp only[zA]at h;exact⟨hm,h.symm⟩;cases h;cases h
  |_=>simp at h
 |_=>simp[hd]at h
variable{T:Tb}
variable{x:Cx}
variable{a:U}
variable{u:U}
variable{va:Value}
theorem qwj{st:TypeId}{f:Nat}(h:SI T x.X st a f=some u)(ha:aD x a va):∃v,Pb T st va f=some v/\aD x u v:=by
 unfold SI at h;unfold Pb;rcases hd:T.und st with _|d;simp[hd]at h;cases d with
 |struct fs=>
  simp only[hd]at h ⊢;rcases hf:nth fs.toList f with _|fd;simp[hf]at h;simp only[hf]at h ⊢;rcases hs:cN T fd.type with _|n;simp[hs]at h;cases n with
  |zero=>simp[hs]at h|succ n=>
   simp only[hs]at h;cases a with
   |ptr k s off=>simp only at h;rcases hl:bU x.X k s with _|_;simp[hl]at h;simp only[hl,zC,zA]at h;subst h;obtain⟨i,hi,rfl⟩:=YG hl ha;exact⟨_,rfl,z59 ha hi⟩
   |iptr l=>simp only[zA]at h;subst h;simp only[aD]at ha;obtain⟨i,off,row,e,rfl,h2,h3,h4⟩:=ha;refine⟨_,rfl,?_⟩;simp only[aD];exact⟨i,off+fd.offset,row,e,rfl,h2,by rw[<-List.drop_drop];exact h3.drop _,HA h4 _⟩
   |_=>simp at h
 |_=>simp[hd]at h
theorem z2w{st:TypeId}{f:Nat}(h:eu T st a f=some u)(ha:aD x a va):∃v,Ns T st va f=some v/\aD x u v:=by
 unfold eu at h;unfold Ns;rcases hd:T.und st with _|d;simp[hd]at h;cases d with
 |struct fs=>
  simp only[hd]at h ⊢;rcases hf:nth fs.toList f with _|fd;simp[hf]at h;simp only[hf]at h ⊢;cases a with
  |agg cs=>simp only[aD]at ha;obtain⟨vs,rfl,h1,h2,h3⟩:=ha;exact qz0 h ⟨h1,h2⟩ h3
  |_=>simp at h
 |_=>simp[hd]at h
theorem OE{i:Int}{n:Nat}(h:0<=i/\i<n):rW i n=true:=by
 unfold rW;cases i with
 |ofNat k=>exact oQ (by have:=h.2;simp at this;exact this)|negSucc k=>have:=h.1;omega
variable{t:TypeId}
theorem qwq(hx:kF x){b:U}{vb:Value}(h:BN T x.X t a b=some u)(ha:aD x a va)(hb:aD x b vb):∃v,Ov T t va vb=some v/\aD x u v:=by
 unfold BN at h;cases b with
 |int k i=>
  simp only[aD]at hb;subst hb;simp only[Ov];simp only at h;rcases hd:T.und t with _|d;simp[hd]at h;cases d with
  |slice e=>
   simp only[hd]at h;rcases hs:cN T e with _|sz;simp[hs]at h;simp only[hs]at h;cases a with
   |sl k off n c=>simp only at h;rcases hl:bU x.X k 0 with _|_;simp[hl]at h;simp only[hl,zC]at h;split at h;rename_i jN;simp only[zA]at h;subst h;obtain⟨i',hi,rfl,_⟩:=OK hl ha;refine⟨_,by simp only[OE jN,zC,hs]<;>rfl,?_⟩;obtain⟨b,q1,q2⟩:=Pl hl;simp only[aD]at ha ⊢;exact⟨rfl,ha.2.1,fun b hb=>⟨Nat.zero_le _,fun _=>⟨i',hi,rfl⟩⟩⟩;cases h
   |vl k st off n=>simp only at h;rcases hv:wK x.X k st with _|q;simp[hv]at h;obtain⟨l,e',iY⟩:=q;obtain⟨hg,hl⟩:=jh hv;simp only[hv,beq_eq]at h;by_cases hz:iY=sz;subst hz;simp only[yC,zC]at h;split at h;rename_i jN;simp only[zA]at h;subst h;obtain⟨i',l0,e0,Nd,l',h1,h2,rfl,h4,h5,h6,h7⟩:=dg hx hl ha (by omega);have:=hg.symm.trans h1;cases this;refine⟨_,by simp only[OE ⟨jN.1,jN.2.1⟩,zC,hs]<;>rfl,?_⟩;simp only[aD]at ha ⊢;refine⟨rfl,ha.2.1,fun b hb=>⟨(ha.2.2 b hb).1,fun _=>⟨i',h2,rfl⟩⟩⟩;cases h;simp[hz]at h
   |isl tt l=>simp only at h;split at h;rename_i jN;rcases hc:l[i.toNat]? with _|c;simp[hc]at h;simp only[hc,beq_eq]at h;by_cases hz:c.length=sz;simp only[hz,yC,zC,zA]at h;subst h;simp only[aD]at ha;rcases ha with⟨rfl,_⟩|⟨i',off,c',rfl,ht,dA⟩;simp at hc;rcases dA with rfl |⟨row,e',iY,g1,g2,g3⟩;simp at hc;obtain⟨q1,q2,q3⟩:=xm g2 _ _ hc;refine⟨_,by simp only[OE jN,zC,hs]<;>rfl,?_⟩;simp only[aD];refine⟨i',off+i.toNat*sz,row,e',rfl,g1,?_,q2⟩;rw[List.drop_drop]at q3;rw[<-hz,q1];exact q3;simp[hz]at h;cases h
   |_=>simp at h
  |array n e=>
   simp only[hd]at h;rcases hs:cN T e with _|sz;simp[hs]at h;simp only[hs]at h;cases a with
   |ptr k st off=>simp only at h;rcases hl:bU x.X k st with _|_;simp[hl]at h;simp only[hl,zC]at h;split at h;rename_i jN;simp only[zA]at h;subst h;obtain⟨i',hi,rfl⟩:=YG hl ha;exact⟨_,by simp only[OE jN,zC,hs]<;>rfl,z59 ha hi⟩;cases h
   |iptr l=>simp only at h;split at h;rename_i jN;simp only[zA]at h;subst h;simp only[aD]at ha;obtain⟨i',off,row,e',rfl,h2,h3,h4⟩:=ha;refine⟨_,by simp only[OE jN,zC,hs]<;>rfl,?_⟩;simp only[aD];exact⟨i',_,row,e',rfl,h2,by rw[<-List.drop_drop];exact h3.drop _,HA h4 _⟩;cases h
   |_=>simp at h
  |_=>simp[hd]at h
 |_=>simp at h
theorem z3n{b:U}{vb:Value}(h:we T t a b=some u)(ha:aD x a va)(hb:aD x b vb):∃v,Y0 T t va vb=some v/\aD x u v:=by
 unfold we at h;cases a with
 |agg cs=>
  simp only at h;cases b with
  |int k i=>
   simp only[aD]at ha hb;subst hb;obtain⟨vs,rfl,h1,h2,h3⟩:=ha;simp only at h;rcases hd:T.und t with _|d;simp[hd]at h;cases d with
   |array n e=>simp only[hd]at h;split at h;rename_i jN;rcases hs:cN T e with _|sz;simp[hs]at h;simp only[hs]at h;obtain⟨v,q1,q2⟩:=qz0 h ⟨h1,h2⟩ h3;exact⟨v,by simp only[Y0,hd,OE jN,zC,hs];exact q1,q2⟩;cases h
   |_=>simp[hd]at h
  |_=>simp at h
 |_=>exact UT h ha hb
theorem zb5(hx:kF x)(h:lenU T x.X t a=some u)(ha:aD x a va):
  ∃ v,(FK T t va=some v\/(FK T t va=none/\∃ kt et r,T.und t=some (.map kt et)/\va = .map r/\(match r with
     |none=>some (Value.int .i64 0)|some r=>match lk x.s.h r with
      |some (.inr (es,_))=>some (.int .i64 es.length)|_=>none)=some v))/\aD x u v:=by
 unfold lenU at h;unfold FK;rcases hd:T.und t with _|d;simp[hd]at h;cases d with
 |string=>
  simp only[hd]at h ⊢;cases a with
  |str s=>simp only[zA]at h;subst h;simp only[aD]at ha;subst ha;exact⟨_,.inl rfl,by simp[aD]⟩|_=>simp at h
 |slice e=>
  simp only[hd]at h ⊢;cases a with
  |nils=>simp only[zA]at h;subst h;simp only[aD]at ha;subst ha;exact⟨_,.inl rfl,by simp[aD]⟩|sl k off n c=>simp only at h;rcases hl:bU x.X k 0 with _|_;simp[hl]at h;simp only[hl,zC,zA]at h;subst h;obtain⟨i,_,rfl,_⟩:=OK hl ha;exact⟨_,.inl rfl,by simp[aD]⟩
  |vl k st off n=>simp only at h;rcases hl:bU x.X k st with _|_;simp[hl]at h;simp only[hl,zC,zA]at h;subst h;obtain⟨_,_,_,_,hv⟩:=Y9 hl ha;obtain⟨o,c,rfl⟩:=co hv;exact⟨_,.inl rfl,by simp[aD]⟩
  |isl tt l=>simp only[zA]at h;subst h;simp only[aD]at ha;rcases ha with⟨rfl,rfl |⟨_,rfl⟩⟩|⟨_,_,_,rfl,_⟩<;>exact⟨_,.inl rfl,by simp[aD]⟩
  |_=>simp at h
 |array n e=>simp only[hd]at h ⊢;cases a<;>simp at h<;>subst h<;>exact⟨_,.inl rfl,by simp[aD]⟩|map kt et=>
  simp only[hd]at h ⊢;cases a with
  |nilm=>simp only[zA]at h;subst h;simp only[aD]at ha;subst ha;exact⟨_,.inr ⟨trivial,kt,et,none,rfl,rfl,rfl⟩,by simp[aD]⟩|map k=>
   simp only at h;rcases hg:gt x.X.h k with _|b;simp[hg]at h;cases b with
   |map es cl=>simp only[hg,zA]at h;subst h;obtain⟨i,hi,rfl⟩:=xp (x:=x) (by simp[bU,hg,B.st]) ha;obtain⟨_,i',es',e1,e2,e3⟩:=hx.ok k _ hg;rw[hi]at e1;cases e1;exact⟨.int .i64 es'.length,.inr ⟨trivial,kt,et,some i,rfl,rfl,by simp[e2]⟩,by simp[aD,e3.1]⟩
   |_=>simp[hg]at h
  |_=>simp at h
 |_=>simp[hd]at h
theorem zam(hx:kF x)(h:GE T x.X t a=some u)(ha:aD x a va):∃v,L9 T t va=some v/\aD x u v:=by
 unfold GE at h;unfold L9;rcases hd:T.und t with _|d;simp[hd]at h;cases d with
 |slice e=>
  simp only[hd]at h ⊢;cases a with
  |nils=>simp only[zA]at h;subst h;simp only[aD]at ha;subst ha;exact⟨_,rfl,by simp[aD]⟩|sl k off n c=>simp only at h;rcases hl:bU x.X k 0 with _|_;simp[hl]at h;simp only[hl,zC,zA]at h;subst h;obtain⟨i,_,rfl,hc,_⟩:=OK hl ha;have mH:Nat.blt c bX=true:=Nat.ble_eq_true_of_le hc;exact⟨.int .i64 c,by simp only[mH,zC],by simp[aD]⟩
  |_=>simp at h
 |_=>simp[hd]at h
theorem z85(hx:kF x){tm:List U}{tv:List Value}(ht:bF x tm tv){op:Op}(h:gG T x.X tm op=some u):sC T x tv op u x.X:=by
 have one:∀v,iV T tv op=some v->aD x u v->sC T x tv op u x.X:=fun v h1 h2=>sC.same hx (z81 h1) h2;unfold gG at h;cases op with
 |move o=>obtain⟨v,h1,h2⟩:=j8 ht h;exact one v (by simp[iV,h1]) h2
 |assign o=>obtain⟨v,h1,h2⟩:=j8 ht h;exact one v (by simp[iV,h1]) h2
 |pick c a b=>
  simp only at h;rcases hc:c8 tm c with _|cu;simp[hc]at h;obtain⟨cv,c1,c2⟩:=j8 ht hc;cases cu with
  |bool t=>
   simp only[aD]at c2;subst c2;cases t with
   |true=>simp only[hc]at h;obtain⟨v,h1,h2⟩:=j8 ht h;exact one v (by simp[iV,c1,h1]) h2
   |false=>simp only[hc]at h;obtain⟨v,h1,h2⟩:=j8 ht h;exact one v (by simp[iV,c1,h1]) h2
  |_=>simp[hc]at h
 |build t ps=>simp only at h;rcases hp:AS tm ps.toList with _|qs;simp[hp]at h;simp only[hp]at h;obtain⟨vs,h1,h2⟩:=na ht hp;obtain⟨v,h3,h4⟩:=z24 h h2;exact one v (by simp[iV,h1,h3]) h4
 |nilCheck o=>
  simp only at h;rcases ho:c8 tm o with _|a;simp[ho]at h;obtain⟨va,a1,a2⟩:=j8 ht ho;cases a with
  |ptr k st off=>simp only[ho]at h;rcases hl:bU x.X k st with _|_;simp[hl]at h;simp only[hl,zC,zA]at h;subst h;obtain⟨i,hi,rfl⟩:=YG hl a2;exact one _ (by simp[iV,a1]) a2
  |iptr l=>simp only[ho,zA]at h;subst h;have a3:=a2;simp only[aD]at a2;obtain⟨i,off,row,e,rfl,_⟩:=a2;exact one _ (by simp[iV,a1]) a3
  |fn f p q=>
   cases f with
   |func g=>simp only[ho,zA]at h;subst h;have a3:=a2;simp only[aD]at a2;obtain⟨i,off,rfl,_⟩:=a2;exact one _ (by simp[iV,a1]) a3
   |_=>simp[ho]at h
  |_=>simp[ho]at h
 |binOp o t a b ty=>simp only at h;rcases ha:c8 tm a with _|au;simp[ha]at h;rcases hb:c8 tm b with _|bu;simp[ha,hb]at h;simp only[ha,hb]at h;obtain⟨va,a1,a2⟩:=j8 ht ha;obtain⟨vb,b1,b2⟩:=j8 ht hb;obtain⟨v,h1,h2⟩:=zag hx h a2 b2;exact one v (by simp[iV,a1,b1,h1]) h2
 |unOp o t a=>simp only at h;rcases ha:c8 tm a with _|au;simp[ha]at h;simp only[ha]at h;obtain⟨va,a1,a2⟩:=j8 ht ha;obtain⟨v,h1,h2⟩:=UU h a2;exact one v (by simp[iV,a1,h1]) h2
 |convert s d a=>simp only at h;rcases ha:c8 tm a with _|au;simp[ha]at h;simp only[ha]at h;obtain⟨va,a1,a2⟩:=j8 ht ha;obtain⟨v,h1,h2⟩:=UU h a2;exact one v (by simp[iV,a1,h1]) h2
 |makeFunc f a b=>simp only at h;rcases ha:mB tm a.toList with _|au;simp[ha]at h;rcases hb:mB tm b.toList with _|bu;simp[ha,hb]at h;simp only[ha,hb,zA]at h;subst h;obtain⟨va,a1,a2⟩:=OW ht ha;obtain⟨vb,b1,b2⟩:=OW ht hb;exact one _ (by simp[iV,a1,b1]<;>rfl) (by simp only[aD];exact⟨va,vb,rfl,a2.1,a2.2,b2.1,b2.2⟩)
 |slice t a lo hi mx=>simp only at h;rcases ha:c8 tm a with _|au;simp[ha]at h;rcases h1:xS tm lo with _|lo';simp[ha,h1]at h;rcases h2:xS tm hi with _|jA;simp[ha,h1,h2]at h;rcases h3:xS tm mx with _|mx';simp[ha,h1,h2,h3]at h;simp only[ha,h1,h2,h3]at h;obtain⟨va,a1,a2⟩:=j8 ht ha;have e1:=ng ht h1;have e2:=ng ht h2;have e3:=ng ht h3;rcases z5o hx h a2 with⟨v,s1,s2⟩|⟨s0,v,s1,s2⟩|⟨s0,s1,v,s2,s3⟩;exact one v (by simp[iV,a1,e1,e2,e3,s1]) s2;exact sC.same hx (Ot (by simp[iV,a1,e1,e2,e3,s0]) (by simp[nR,a1,e1,e2,e3,s1])) s2;exact⟨v,bump x,qyt (by simp[iV,a1,e1,e2,e3,s0]) (by simp[nR,a1,e1,e2,e3,s1]) (by simp[u6,a1,e1,e2,e3,s2]),rfl,s3,z6v hx⟩
 |fieldAddr t a f=>simp only at h;rcases ha:c8 tm a with _|au;simp[ha]at h;simp only[ha]at h;obtain⟨va,a1,a2⟩:=j8 ht ha;obtain⟨v,h1,h2⟩:=qwj h a2;exact one v (by simp[iV,a1,h1]) h2
 |field t a f=>simp only at h;rcases ha:c8 tm a with _|au;simp[ha]at h;simp only[ha]at h;obtain⟨va,a1,a2⟩:=j8 ht ha;obtain⟨v,h1,h2⟩:=z2w h a2;exact one v (by simp[iV,a1,h1]) h2
 |indexAddr t a b=>simp only at h;rcases ha:c8 tm a with _|au;simp[ha]at h;rcases hb:c8 tm b with _|bu;simp[ha,hb]at h;simp only[ha,hb]at h;obtain⟨va,a1,a2⟩:=j8 ht ha;obtain⟨vb,b1,b2⟩:=j8 ht hb;obtain⟨v,h1,h2⟩:=qwq hx h a2 b2;exact one v (by simp[iV,a1,b1,h1]) h2
 |index t a b=>simp only at h;rcases ha:c8 tm a with _|au;simp[ha]at h;rcases hb:c8 tm b with _|bu;simp[ha,hb]at h;simp only[ha,hb]at h;obtain⟨va,a1,a2⟩:=j8 ht ha;obtain⟨vb,b1,b2⟩:=j8 ht hb;obtain⟨v,h1,h2⟩:=z3n h a2 b2;exact one v (by simp[iV,a1,b1,h1]) h2
 |extract a i=>
  simp only at h;rcases ha:c8 tm a with _|au;simp[ha]at h;simp only[ha]at h;obtain⟨va,a1,a2⟩:=j8 ht ha;cases au with
  |tup l=>simp only[aD]at a2;obtain⟨vs,rfl,q1,q2⟩:=a2;simp only[xu,iZ]at h;obtain⟨v,h1,h2⟩:=(show bF x l vs from⟨q1,q2⟩).get h;exact one v (by simp[iV,a1,Gu,iZ,h1]) h2
  |_=>simp[xu]at h
 |call c=>
  simp only at h;obtain⟨callee,args,ats⟩:=c;cases callee with
  |builtin b=>
   cases b with
   |len=>
    simp only at h;rcases ha:mB tm args.toList with _|us;simp[ha]at h;obtain⟨vs,a1,a2⟩:=OW ht ha;rcases vA:ats.toList with _|⟨t,ts⟩;simp[ha,vA]at h;rcases us with _|⟨a,l⟩;simp[ha]at h;cases l with
    |cons _ _=>simp[ha]at h|nil=>obtain⟨va,vG,rfl,r1,r2⟩:=a2.inv;rw[r2.nil_inv]at a1;simp only[ha,vA]at h;obtain⟨v,q1,q2⟩:=zb5 hx h r1;rcases q1 with q1 |⟨q0,kt,et,r,hd,rfl,q1⟩;exact one v (by simp[iV,a1,vA,q1]) q2;refine sC.same hx (Ot (by simp[iV,a1,vA,q0]) ?_) q2;rcases r with _|r;simp only[nR,a1,vA,hd];exact q1;simp only[nR,a1,vA,hd];exact q1
   |cap=>
    simp only at h;rcases ha:mB tm args.toList with _|us;simp[ha]at h;obtain⟨vs,a1,a2⟩:=OW ht ha;rcases vA:ats.toList with _|⟨t,ts⟩;simp[ha,vA]at h;rcases us with _|⟨a,l⟩;simp[ha]at h;cases l with
    |cons _ _=>simp[ha]at h|nil=>obtain⟨va,vG,rfl,r1,r2⟩:=a2.inv;rw[r2.nil_inv]at a1;simp only[ha,vA]at h;obtain⟨v,q1,q2⟩:=zam hx h r1;exact one v (by simp[iV,a1,vA,q1]) q2
   |max=>simp only at h;rcases ha:mB tm args.toList with _|us;simp[ha]at h;obtain⟨vs,a1,a2⟩:=OW ht ha;rcases us with _|⟨a,l⟩;simp[ha]at h;obtain⟨va,vG,rfl,r1,r2⟩:=a2.inv;simp only[ha]at h;rcases h1:toV a with _|v1;simp[h1]at h;rcases h2:eP l with _|v2;simp[h1,h2]at h;simp only[h1,h2]at h;have e1:=(AU a v1 h1 x va).1 r1;have e2:=(H9 l v2 h2 x vG).1 r2;subst e1;subst e2;rcases h3:yN S7 va vG with _|r;simp[h3]at h;simp only[h3]at h;exact one r (by simp[iV,a1,h3]) ((O9 r u h).2 x)
   |min=>simp only at h;rcases ha:mB tm args.toList with _|us;simp[ha]at h;obtain⟨vs,a1,a2⟩:=OW ht ha;rcases us with _|⟨a,l⟩;simp[ha]at h;obtain⟨va,vG,rfl,r1,r2⟩:=a2.inv;simp only[ha]at h;rcases h1:toV a with _|v1;simp[h1]at h;rcases h2:eP l with _|v2;simp[h1,h2]at h;simp only[h1,h2]at h;have e1:=(AU a v1 h1 x va).1 r1;have e2:=(H9 l v2 h2 x vG).1 r2;subst e1;subst e2;rcases h3:yN S6 va vG with _|r;simp[h3]at h;simp only[h3]at h;exact one r (by simp[iV,a1,h3]) ((O9 r u h).2 x)
   |_=>simp at h
  |_=>simp at h
 |_=>simp at h
theorem Oz{T:Tb}{x:Cx}{kt:TypeId}{k:Value}:∀{es:List ME}{vs:List MapEntry}(i:Nat){r:Option (Nat×U)},u7 x es vs->BL T kt k es i=some r->
  (r=none/\qR T kt k vs i=some none)\/∃j u v,r=some (j,u)/\qR T kt k vs i=some (some (j,v))/\aD x u v/\i<=j/\∃e e',es[j-i]? = some e/\e.val=u/\vs[j-i]? = some e'/\aD x e.key e'.key/\e'.born=e.born/\e'.val=v
 |[],vs,i,r,hm,h=>by
  simp only[BL,zA]at h;subst h;have:vs=[]:=by have:=hm.1;simpa using this.symm
  subst this;exact .inl ⟨rfl,rfl⟩
 |e::es,[],i,r,hm,h=>by have:=hm.1;simp at this
 |e::es,e'::vs,i,r,hm,h=>by
  obtain⟨v0,q0,q1,q2,q3⟩:=hm.2 0 e rfl;simp at q0;subst q0;have dJ:u7 x es vs:=⟨by have:=hm.1;simpa using this,fun j d hd=>by simpa using hm.2 (j+1) d (by simpa using hd)⟩;simp only[BL]at h;rcases hk:toV e.key with _|k';simp[hk]at h;simp only[hk]at h;have ek:=(AU _ _ hk x _).1 q1;rcases he:eqv T 50 kt k k' with _|b;simp[he]at h;cases b with
  |true=>simp only[he,zA]at h;subst h;exact .inr ⟨i,e.val,e'.val,rfl,by simp[qR,ek,he],q2,zF _,e,e',by simp,rfl,by simp,q1,q3,rfl⟩|false=>simp only[he]at h;rcases Oz (i+1) dJ h with⟨h1,h2⟩|⟨j,u,v,h1,h2,h3,h4,d,d',h5,h6,h7,h8⟩;exact .inl ⟨h1,by simp[qR,ek,he,h2]⟩;refine .inr ⟨j,u,v,h1,by simp[qR,ek,he,h2],h3,by omega,d,d',?_,h6,?_,h8⟩;rw[show j-i=(j-(i+1))+1 by omega];simpa using h5;rw[show j-i=(j-(i+1))+1 by omega];simpa using h7
theorem qyf{l:List U}{off:Nat}{lv:List Value}(h:GY T t l off=some u)(hl:cT x l lv)(hk:okL l=true):
  ∃v,(match T.und t with
    |none=>none|some d=>cond (rP d) (match cN T t with
      |some n=>match xK lv off n with
       |some cs=>some (.agg cs.toArray)|none=>none
      |none=>none) (nth lv off))=some v/\aD x u v:=by
 unfold GY at h;rcases hd:T.und t with _|d;simp[hd]at h;simp only[hd]at h ⊢;cases ha:rP d with
 |true=>
  simp only[ha,zC]at h ⊢;rcases hs:cN T t with _|n;simp[hs]at h;simp only[hs]at h ⊢;rcases hg:kS l off n with _|cs;simp[hg]at h;simp only[hg,zA]at h;subst h;obtain⟨h1,rfl⟩:=SL hg;have b7:=cT.len hl;rw[Nl (by omega)];refine⟨_,rfl,?_⟩;simp only[aD];have:=(hl.drop off).takeE;have e1:bF x ((l.drop off).take n) ((lv.drop off).take n):=by refine bF.mk' (by simp;omega) fun i u hu=>?_;rw[List.getElem?_take]at hu ⊢;split at hu;rename_i aE;simp only[aE,if_true];exact(J7 x _ _).1 (hl.drop off) i u hu;cases hu
  exact⟨_,rfl,e1.1,e1.2,OP (HA hk _) _⟩
 |false=>simp only[ha,zD,iZ]at h ⊢;exact(J7 x _ _).1 hl _ _ h
theorem qnb(hx:kF x){k st:Nat}{l:List U}(h:cellsOf x.X k st=some l){off:Nat}{v:Value}(hr:aD x (.ptr k st off) v):
  ∃i lv e md,x.Y k=some i/\v=.pointer (some ⟨i,off,none⟩)/\lk x.s.h i=some (.inl (lv,e,md))/\md≠1/\bF x l lv/\okL l=true/\
   ((md=0/\gt x.X.h k=some (.row l e))\/(∃sz,md=sz+2/\0<sz/\gt x.X.h k=some (.vec l e sz st))):=by
 unfold cellsOf at h;rcases hg:gt x.X.h k with _|b;simp[hg]at h;cases b with
 |row l' e=>simp only[hg,beq_eq]at h;by_cases bY:0=st;subst bY;simp at h;subst h;obtain⟨i,hi,rfl⟩:=YG (x:=x) (by simp[bU,hg,B.st]) hr;obtain⟨_,k1,i',lv,e1,e2,e3⟩:=hx.ok k _ hg;rw[hi]at e1;cases e1;exact⟨i,lv,e,0,hi,rfl,e2,by omega,e3,k1,.inl ⟨rfl,rfl⟩⟩;simp[bY]at h
 |vec l' e sz cR=>simp only[hg,beq_eq]at h;by_cases bY:cR=st;subst bY;simp at h;subst h;obtain⟨i,hi,rfl⟩:=YG (x:=x) (by simp[bU,hg,B.st]) hr;obtain⟨_,k1,k2,h3⟩:=hx.ok k _ hg;rcases h3 with⟨h4,h5⟩|⟨i',lv,e1,e2,e3⟩;rw[hi]at h5;cases h5;rw[hi]at e1;cases e1;exact⟨i,lv,e,sz+2,hi,rfl,e2,by omega,e3,k1,.inr ⟨sz,rfl,k2,rfl⟩⟩;simp[bY]at h
 |map es cl=>simp[hg]at h
theorem qz6(hx:kF x){tm:List U}{tv:List Value}(ht:bF x tm tv){op:Op}(h:nC T x.X tm op=some u):sC T x tv op u x.X:=by
 unfold nC at h;cases op with
 |load t o=>
  simp only at h;rcases ho:c8 tm o with _|a;simp[ho]at h;obtain⟨va,a1,a2⟩:=j8 ht ho;cases a with
  |ptr k st off=>simp only[ho]at h;rcases hc:cellsOf x.X k st with _|l;simp[hc]at h;simp only[hc]at h;obtain⟨i,lv,e,md,q1,rfl,q2,_,q3,q4,_⟩:=qnb hx hc a2;obtain⟨v,r1,r2⟩:=qyf h q3.1 q4;exact sC.same hx (Ot (by simp[iV]) (by simp only[nR,a1,q2];exact r1)) r2
  |iptr l=>
   simp only[ho]at h;simp only[aD]at a2;obtain⟨i,off,row,e,rfl,g1,g2,g3⟩:=a2;obtain⟨v,r1,r2⟩:=qyf h g2 g3;refine sC.same hx (Ot (by simp[iV]) (v:=v) ?_) r2;simp only[nR,a1,g1];rcases hd:T.und t with _|d;simp[hd]at r1;simp only[hd]at r1 ⊢;cases ha:rP d with
   |true=>simp only[ha,zC]at r1 ⊢;rcases hs:cN T t with _|n;simp[hs]at r1;simp only[hs,xK,List.drop_drop,Nat.add_zero]at r1 ⊢;exact r1
   |false=>simp only[ha,zD,iZ,List.getElem?_drop,Nat.add_zero]at r1 ⊢;exact r1
  |_=>simp[ho]at h
 |lookup t a b ok=>
  simp only at h;rcases hd:T.und t with _|d;simp[hd]at h;cases d with
  |map kt et=>
   rcases ha:c8 tm a with _|m;simp[hd,ha]at h;rcases hb:c8 tm b with _|ku;simp[hd,ha,hb]at h;simp only[hd,ha,hb]at h;obtain⟨va,a1,a2⟩:=j8 ht ha;obtain⟨vb,b1,b2⟩:=j8 ht hb;rcases hk:toV ku with _|kv;simp[hk]at h;simp only[hk]at h;have ekv:=(AU _ _ hk x vb).1 b2;subst ekv;rcases v8:oL T 50 kt vb with _|_;simp[v8]at h;simp only[v8,zC]at h;have key:∀ (es:List ME) (vs:List MapEntry),(va = .map none/\vs=[]\/∃ i cl,va = .map (some i)/\lk x.s.h i=some (.inr (vs,cl)))->u7 x es vs->(match BL T kt vb es 0 with
      |none=>none|some (some (_,v))=>some (cond ok (.tup [v,.bool true]) v)
      |some none=>match T.inf et with
       |some (_,_,z)=>(match iI z with
        |some zu=>some (cond ok (.tup [zu,.bool false]) zu)|none=>none)
       |none=>none)=some u->sC T x tv (.lookup t a b ok) u x.X:=by
    intro es vs e1 e3 h;have fin:∀v,nR T tv x.s (.lookup t a b ok)=some v->aD x u v->sC T x tv (.lookup t a b ok) u x.X:=fun v h1 h2=>sC.same hx (Ot (by simp[iV]) h1) h2;have IG:∀(p:U)(q:Value)(bb:Bool),aD x p q->aD x (cond ok (.tup [p,.bool bb]) p) (cond ok (.tuple #[q,.bool bb]) q):=fun p q bb HH=>by rcases ok with _|_;exact HH;simp only[zC,aD];exact⟨[q,.bool bb],rfl,by simp[cT,HH,aD],rfl⟩
    rcases hf:BL T kt vb es 0 with _|r';simp[hf]at h;rcases Oz 0 e3 hf with⟨rfl,h2⟩|⟨j,w,v,rfl,h2,h3,_⟩;simp only[hf]at h;rcases hi:T.inf et with _|q;simp[hi]at h;obtain⟨q1,q2,z⟩:=q;simp only[hi]at h;rcases hz:iI z with _|zu;simp[hz]at h;simp only[hz,zA]at h;subst h;have qC:nR T tv x.s (.lookup t a b ok)=some (cond ok (.tuple #[z,.bool false]) z):=by rcases e1 with⟨rfl,rfl⟩|⟨i,cl,rfl,e1⟩;simp only[nR,hd,a1,b1,v8,zC,h2,hi];simp only[nR,hd,a1,b1,v8,zC,e1,h2,hi]
    exact fin _ qC (IG _ _ _ ((O9 _ _ hz).2 x));simp only[hf,zA]at h;subst h;have qC:nR T tv x.s (.lookup t a b ok)=some (cond ok (.tuple #[v,.bool true]) v):=by rcases e1 with⟨rfl,rfl⟩|⟨i,cl,rfl,e1⟩;simp only[nR,hd,a1,b1,v8,zC,h2];simp only[nR,hd,a1,b1,v8,zC,e1,h2]
    exact fin _ qC (IG _ _ _ h3)
   cases m with
   |nilm=>simp only[aD]at a2;exact key [] [] (.inl ⟨a2,rfl⟩) ⟨rfl,by simp⟩ h|map r=>
    simp only at h;rcases hg:gt x.X.h r with _|bb;simp[hg]at h;cases bb with
    |map es cl=>simp only[hg]at h;obtain⟨i,hi,rfl⟩:=xp (x:=x) (by simp[bU,hg,B.st]) a2;obtain⟨_,i',es',e1,e2,e3⟩:=hx.ok r _ hg;rw[hi]at e1;cases e1;exact key es es' (.inr ⟨i,cl,rfl,e2⟩) e3 h
    |_=>simp[hg]at h
   |_=>simp at h
  |_=>simp[hd]at h
 |_=>simp at h
variable{x:Cx}
variable{k:Nat}
variable{b:B}
theorem oE.mono{y:Cx}(h:oE x k b)(hm:Mo x.X.nx x y)(kO:y.Y k=x.Y k)(hl:∀i c,x.Y k=some i->lk x.s.h i=some c->lk y.s.h i=some c):oE y k b:=by
 have relm:∀{es:List ME}{es':List MapEntry},u7 x es es'->u7 y es es':=fun{es es'} e3=>⟨e3.1,fun j e he=>by obtain⟨v,q1,q2,q3,q4⟩:=e3.2 j e he;exact⟨v,q1,hm.ke _ _ (aD.bel _ _ q2) q2,hm.ke _ _ (aD.bel _ _ q3) q3,q4⟩⟩;cases b with
 |row l e=>obtain⟨k1,i,l',e1,e2,e3⟩:=h;exact⟨k1,i,l',by rw[kO,e1],hl _ _ e1 e2,hm.ke.E e3.bel e3⟩
 |vec l e sz st=>obtain⟨k1,k2,h3⟩:=h;refine⟨k1,k2,?_⟩;rcases h3 with⟨h3,h4⟩|⟨i,l',e1,e2,e3⟩;exact .inl ⟨h3,by rw[kO,h4]⟩;exact .inr ⟨i,l',by rw[kO,e1],hl _ _ e1 e2,hm.ke.E e3.bel e3⟩
 |map es cl=>obtain⟨i,es',e1,e2,e3⟩:=h;exact⟨i,es',by rw[kO,e1],hl _ _ e1 e2,relm e3⟩
theorem oE.not1{i:Nat}(h:oE x k b)(hi:x.Y k=some i){row:List Value}{e:TypeId}:lk x.s.h i≠some (.inl (row,e,1)):=by
 intro hl;cases b with
 |row l e'=>obtain⟨_,i',l',e1,e2,_⟩:=h;rw[hi]at e1;cases e1;rw[hl]at e2;cases e2
 |vec l e' sz st=>obtain⟨_,_,h3⟩:=h;rcases h3 with⟨_,h4⟩|⟨i',l',e1,e2,_⟩;rw[hi]at h4;cases h4;rw[hi]at e1;cases e1;rw[hl]at e2;cases e2
 |map es cl=>obtain⟨i',es',e1,e2,_⟩:=h;rw[hi]at e1;cases e1;rw[hl]at e2;cases e2
theorem step1{y:Cx}(hx:kF x)(K:Nat)(bK:B)(hn:x.X.nx<=y.X.nx)(hK:K<y.X.nx)(wS:∀k,k≠K->gt y.X.h k=gt x.X.h k/\y.Y k=x.Y k)(i7:gt y.X.h K=some bK)
  (kZ:(∃b0,gt x.X.h K=some b0/\b0.st<=bK.st/\(b0.st=bK.st->y.Y K=x.Y K/\∀l e sz st,b0=.vec l e sz st->∃l',bK=.vec l' e sz st))\/(gt x.X.h K=none/\x.X.nx<=K))
  (oA:∀i b,lk x.s.h i=some b->(∀c,gt x.X.h K=some c->x.Y K≠some i)->lk y.s.h i=some b)
  (tJ:∀i,y.Y K=some i->(∃c,gt x.X.h K=some c/\x.Y K=some i)\/x.s.nx<=i) (gO:∀i b,lk y.s.h i=some b->i<y.s.nx) (hB:Mo x.X.nx x y->oE y K bK):Out x y:=by
 have fW:Mo x.X.nx x y:=by refine⟨fun k hk _=>⟨by omega,fun b' cU=>?_⟩,fun i row e hl=>oA i _ hl fun c hc he=>(hx.ok K c hc).2.not1 he hl⟩;by_cases e:k=K;subst e;rw[i7]at cU;cases cU;rcases kZ with⟨b0,h1,h2,h3⟩|⟨_,h2⟩;exact⟨b0,h1,h2,h3⟩;omega;obtain⟨h1,h2⟩:=wS k e;exact⟨b',by rw[<-h1,cU],zF _,fun _=>⟨h2,fun l e sz st h=>⟨l,h⟩⟩⟩
 have cZ:∀k b i c,k≠K->gt x.X.h k=some b->x.Y k=some i->gt x.X.h K=some c->x.Y K≠some i:=fun k b i c hk hb hi hc he=>hk (hx.inj k K b c i hb hc hi he);refine⟨⟨fun k b hb=>?_,fun k k' b b' i hb cU hi jA=>?_,gO⟩,fW,fun F J i b hb=>?_⟩;by_cases e:k=K;subst e;rw[i7]at hb;cases hb;exact⟨hK,hB fW⟩;obtain⟨h1,h2⟩:=wS k e;rw[h1]at hb;obtain⟨h3,h4⟩:=hx.ok k b hb;exact⟨by omega,h4.mono fW h2 fun i c hi hl=>oA i c hl fun d hd=>cZ k b i d e hb hi hd⟩;have own:∀k b i,k≠K->gt y.X.h k=some b->y.Y k=some i->gt x.X.h k=some b/\x.Y k=some i/\i<x.s.nx:=fun k b i e hb hi=>by
  obtain⟨h1,h2⟩:=wS k e;rw[h1]at hb;rw[h2]at hi;refine⟨hb,hi,?_⟩;have:=(hx.ok k b hb).2;cases b with
  |row l e=>obtain⟨_,i',l',e1,e2,_⟩:=this;rw[hi]at e1;cases e1;exact hx.bd _ _ e2
  |vec l e' sz st=>obtain⟨_,_,h3⟩:=this;rcases h3 with⟨_,h4⟩|⟨i',l',e1,e2,_⟩;rw[hi]at h4;cases h4;rw[hi]at e1;cases e1;exact hx.bd _ _ e2
  |map es cl=>obtain⟨i',es',e1,e2,_⟩:=this;rw[hi]at e1;cases e1;exact hx.bd _ _ e2
 by_cases e:k=K;by_cases e':k'=K;rw[e,e'];exfalso;subst e;obtain⟨q1,q2,q3⟩:=own k' b' i e' cU jA;rcases tJ i hi with⟨c,hc,mH⟩|wW;exact e' (hx.inj k' k b' c i q1 hc q2 mH);omega;by_cases e':k'=K;exfalso;subst e';obtain⟨q1,q2,q3⟩:=own k b i e hb hi;rcases tJ i jA with⟨c,hc,mH⟩|wW;exact e (hx.inj k k' b c i q1 hc q2 mH);omega;obtain⟨q1,q2,_⟩:=own k b i e hb hi;obtain⟨q3,q4,_⟩:=own k' b' i e' cU jA;exact hx.inj k k' b b' i q1 q3 q2 q4;obtain⟨h1,h2⟩:=J i b hb;refine⟨oA i b h1 fun c hc=>h2 K c hc,fun k c hc hi=>?_⟩;by_cases e:k=K;subst e;rcases tJ i hi with⟨d,hd,bG⟩|wW;exact h2 k d hd bG;have:=hx.bd i b h1;omega;obtain⟨q1,q2⟩:=wS k e;rw[q1]at hc;rw[q2]at hi;exact h2 k c hc hi
def mA(Y:Nat->Option Nat)(k:Nat)(o:Option Nat):Nat->Option Nat:=fun j=>if j=k then o else Y j
theorem ik(Y:Nat->Option Nat)(k:Nat)(o:Option Nat):mA Y k o k=o:=by simp[mA]
theorem Z'(Y:Nat->Option Nat){j:Nat}(o:Option Nat)(h:j≠k):mA Y k o j=Y j:=by simp[mA,h]
theorem US(hx:kF x):gt x.X.h x.X.nx=none:=by
 rcases h:gt x.X.h x.X.nx with _|b;rfl;have:=(hx.ok _ b h).1;omega
theorem dp(hx:kF x)(b:B)(c:lK)(hB:∀y:Cx,y.Y x.X.nx=some x.s.nx->lk y.s.h x.s.nx=some c->Mo x.X.nx x y->oE y x.X.nx b):
  Out x ⟨mA x.Y x.X.nx (some x.s.nx),newU x.X b,⟨(x.s.nx,c)::x.s.h,x.s.nx+1⟩⟩:=by
 refine step1 hx x.X.nx b (by simp[newU]) (by simp[newU]) (fun k hk=>⟨by simp[newU,dY,Ne.symm hk],Z' _ _ hk⟩) (by simp[newU,dY]) (.inr ⟨US hx,zF _⟩) (fun i d hd _=>?_) (fun i hi=>?_) (fun i d hd=>?_) (fun hm=>?_);have:=hx.bd i d hd;simp[mS,show x.s.nx≠i by omega,hd];change mA _ _ _ _=some i at hi;rw[ik]at hi;cases hi;exact .inr (zF _);simp only[mS]at hd;split at hd;show i<x.s.nx+1;omega;exact Nat.lt_succ_of_lt (hx.bd i d hd);exact hB _ (by simp[mA]) (by simp[mS]) hm
theorem xz(hx:kF x)(e:TypeId)(sz:Nat)(dR:0<sz):Out x ⟨mA x.Y x.X.nx none,newU x.X (.vec [] e sz 0),x.s⟩:=by
 refine step1 hx x.X.nx (.vec [] e sz 0) (by simp[newU]) (by simp[newU]) (fun k hk=>⟨by simp[newU,dY,Ne.symm hk],Z' _ _ hk⟩) (by simp[newU,dY]) (.inr ⟨US hx,zF _⟩) (fun i d hd _=>hd) (fun i hi=>?_) hx.bd (fun hm=>?_);change mA _ _ _ _=some i at hi;rw[ik]at hi;cases hi;exact⟨rfl,dR,.inl ⟨rfl,by simp[mA]⟩⟩
theorem Od{c:lK}{st:Nat}(bY:b.st=st){p:Option Nat->Prop}(hp:p (some x.s.nx)):Ref ⟨mA x.Y x.X.nx (some x.s.nx),newU x.X b,⟨(x.s.nx,c)::x.s.h,x.s.nx+1⟩⟩ x.X.nx st p:=by
 refine⟨by simp[newU],fun b' cU=>?_⟩;simp only[newU,dY,if_true,zA]at cU;subst cU;exact⟨Nat.le_of_eq bY.symm,fun _=>by simpa[mA]using hp⟩
theorem Gq(hx:kF x){K i:Nat}{b0 bK:B}{c:lK}(h0:gt x.X.h K=some b0)(hi:x.Y K=some i){c0:lK}(KH:lk x.s.h i=some c0)(bY:b0.st=bK.st)(hv:∀l e sz st,b0=.vec l e sz st->∃l',bK=.vec l' e sz st)
  (hB:∀y:Cx,y.Y K=some i->lk y.s.h i=some c->Mo x.X.nx x y->oE y K bK):Out x ⟨x.Y,⟨ug x.X.h K bK,x.X.nx⟩,⟨up x.s.h i c,x.s.nx⟩⟩:=by
 refine step1 hx K bK (zF _) (hx.ok K _ h0).1 (fun k hk=>⟨by simp[BK,Ne.symm hk],rfl⟩) (by simp[BK,h0]) (.inl ⟨b0,h0,Nat.le_of_eq bY,fun _=>⟨rfl,hv⟩⟩) (fun j d hd cZ=>?_) (fun j hj=>.inl ⟨b0,h0,hj⟩) (fun j d hd=>?_) (fun hm=>?_);have:i≠j:=fun e=>cZ b0 h0 (by rw[hi,e]);simp[AP,this,hd];simp only[AP]at hd;split at hd;rename_i e;subst e;exact hx.bd i _ KH;exact hx.bd j d hd;exact hB _ hi (by simp[AP,KH]) hm
theorem Gw{zu:List U}{z:List Value}(h:bF x zu z)(n:Nat):bF x (vO zu n) (cC z n):=by
 induction n with|zero=>exact bF.nil x|succ n ih=>simp only[vO,List.replicate_succ,List.flatten_cons,cC];exact h.append ih
theorem de{zu:List U}(h:okL zu=true)(n:Nat):okL (vO zu n)=true:=by
 induction n with|zero=>rfl|succ n ih=>simp only[vO,List.replicate_succ,List.flatten_cons];exact JB h ih
section
variable{T:Tb}{x:Cx}(hx:kF x){tm:List U}{tv:List Value}(ht:bF x tm tv)
include hx
theorem jr{l:List U}{l':List Value}(hl:bF x l l')(hk:okL l=true)(e:TypeId):Out x ⟨mA x.Y x.X.nx (some x.s.nx),newU x.X (.row l e),Rx.newRow x.s l' e 0⟩:=
 dp hx (.row l e) (.inl (l',e,0)) fun y h1 h2 hm=>⟨hk,x.s.nx,l',h1,h2,hm.ke.E hl.bel hl⟩
theorem jq{l:List U}{l':List Value}(hl:bF x l l')(hk:okL l=true)(e:TypeId){sz:Nat}(dR:0<sz):Out x ⟨mA x.Y x.X.nx (some x.s.nx),newU x.X (.vec l e sz 0),Rx.newRow x.s l' e (sz+2)⟩:=
 dp hx (.vec l e sz 0) (.inl (l',e,sz+2)) fun y h1 h2 hm=>⟨hk,dR,.inr ⟨x.s.nx,l',h1,h2,hm.ke.E hl.bel hl⟩⟩
variable{t:TypeId}
variable{r:U}
variable{X':Sg}
theorem z5v{p u:U}{pv uv:Value}(h:XS T x.X t p u=some (r,X'))(hp:aD x p pv)(hu:aD x u uv):
  ∃v y,Fl T x.s t pv uv=some (v,y.s)/\y.X=X'/\aD y r v/\Out x y:=by
 unfold XS at h;cases p with
 |ptr k st off=>
  simp only at h;rcases hs:cN T t with _|n;simp[hs]at h;simp only[hs]at h;rcases hc:xT u with _|cs;simp[hc]at h;simp only[hc]at h;obtain⟨c1,c2⟩:=nh hu hc;rcases b7:Nat.beq cs.length n with _|_;simp[b7]at h;simp only[b7,zC,c2]at h;rcases dA:cellsOf x.X k st with _|l;simp[dA]at h;simp only[dA]at h;obtain⟨i,lv,e,md,q1,rfl,q2,q3,q4,q5,q6⟩:=qnb hx dA hp;have c1':=zc2 (X:=x.X) (k:=k) c1;have c2':okL (GU x.X k cs)=true:=by rw[WE];exact c2
  rcases hput:pU l off (GU x.X k cs)with _|l1;simp[hput]at h;simp only[hput]at h;obtain⟨rv,p1,p2,p3⟩:=wx hput q4 c1';have p4:=p3 q5 c2';have bY:Fl T x.s t (.pointer (some ⟨i,off,none⟩)) uv=some (undef,⟨up x.s.h i (.inl (rv,e,md)),x.s.nx⟩):=by
   have yY:cV x.s i=some (lv,e,md):=by unfold cV;rcases q6 with⟨rfl,_⟩|⟨sz,rfl,_⟩<;>simp[q2]
   simp only[Fl,hs];rw[<-c1.2,b7];simp only[zC,SO c1 c2,yY,p1]
  rcases q6 with⟨rfl,hg⟩|⟨sz,rfl,hz,hg⟩;simp only[M2,hg,zA,zB]at h;obtain⟨rfl,rfl⟩:=h;exact⟨undef,⟨x.Y,⟨ug x.X.h k (.row l1 e),x.X.nx⟩,⟨up x.s.h i (.inl (rv,e,0)),x.s.nx⟩⟩,bY,rfl,by simp[aD],Gq hx hg q1 q2 rfl (by simp) fun y h1 h2 hm=>⟨p4,i,rv,h1,h2,hm.ke.E p2.bel p2⟩⟩;simp only[M2,hg,zA,zB]at h;obtain⟨rfl,rfl⟩:=h;exact⟨undef,⟨x.Y,⟨ug x.X.h k (.vec l1 e sz st),x.X.nx⟩,⟨up x.s.h i (.inl (rv,e,sz+2)),x.s.nx⟩⟩,bY,rfl,by simp[aD],Gq hx hg q1 q2 rfl (by rintro l e sz st h;cases h;exact⟨_,rfl⟩) fun y h1 h2 hm=>⟨p4,hz,.inr ⟨i,rv,h1,h2,hm.ke.E p2.bel p2⟩⟩⟩
 |_=>simp at h
theorem qv1{n:Nat}{ps:List (Nat×U)}{pv:List (Nat×Value)}(h:Pk T x.X t n ps=some (r,X'))(hp:XR x ps pv):∃v y,Pj T x.s t n pv=some (v,y.s)/\y.X=X'/\aD y r v/\Out x y:=by
 unfold Pk at h;rcases hd:T.und t with _|d;simp[hd]at h;cases d with
 |slice e=>
  simp only[hd]at h;rcases hi:T.inf e with _|q;simp[hi]at h;obtain⟨sz,by_,z⟩:=q;simp only[hi]at h;rcases h1:Nat.ble (n*sz) 16777216 with _|_;simp[h1]at h;simp only[h1,zC]at h;rcases h2:Nat.ble n 16777216 with _|_;simp[h2]at h;simp only[h2,zC]at h;rcases h3:Nat.beq z.cells.toList.length sz with _|_;simp only[h3,zD]at h;cases h;simp only[h3,zC]at h;rcases h4:pV z.cells.toList with _|zu;simp[h4]at h;simp only[h4]at h;have uG:=(OI _ _ h4).2 x;rcases h5:uT (fun i=>some (i*sz,sz)) (vO zu n) ps with _|cs;simp[h5]at h;simp only[h5]at h;rcases h6:okL cs with _|_;simp[h6]at h;simp only[h6,zC,zA,zB]at h;obtain⟨rfl,rfl⟩:=h;obtain⟨rv,f1,f2⟩:=Pa hp (Gw uG n) h5;have gW:n<bX:=by have:=zY h2;unfold bX;omega
  refine⟨.slice (some ⟨x.s.nx,0,none⟩) n n,_,?_,rfl,?_,jr hx f2 h6 e⟩;simp only[Pj,hd,hi,h1,h3,zC,f1,oQ gW];simp only[aD];exact⟨rfl,Od rfl ⟨x.s.nx,rfl,rfl,gW,zF _⟩⟩
 |_=>simp[hd]at h
theorem z7r{a b:U}{va vb:Value}(h:Lc T x.X t a b=some (r,X'))(ha:aD x a va)(hb:aD x b vb):∃v y,Lb T x.s t va vb=some (v,y.s)/\y.X=X'/\aD y r v/\Out x y:=by
 unfold Lc at h;rcases hd:T.und t with _|d;simp[hd]at h;cases d with
 |slice e=>
  cases a with
  |int ka a=>
   cases b with
   |int kb b=>
    simp only[aD]at ha hb;subst ha;subst hb;simp only[hd]at h;rcases hi:T.inf e with _|q;simp[hi]at h;obtain⟨sz,by_,z⟩:=q;simp only[hi]at h;rcases h4:pV z.cells.toList with _|zu;simp[h4]at h;simp only[h4]at h;have uG:=(OI _ _ h4).2 x;rcases h6:okL zu with _|_;simp[h6]at h;simp only[h6,zC]at h;rcases h3:Nat.beq z.cells.toList.length sz with _|_;simp only[h3,zD]at h;cases h;simp only[h3,zC]at h;split at h;rename_i hc;simp only[zA,zB]at h;obtain⟨rfl,rfl⟩:=h;obtain⟨c1,c2,c3,c4⟩:=hc;have Ka:IntKind.i64.wrap a=Int.ofNat a.toNat:=by rw[wrap_i64 (by omega) (by omega)];simp;omega
    have Vc:IntKind.i64.wrap b=Int.ofNat b.toNat:=by rw[wrap_i64 (by omega) (by omega)];simp;omega
    have gW:b.toNat<bX:=by unfold bX;omega
    refine⟨.slice (some ⟨x.s.nx,0,none⟩) a.toNat b.toNat,_,?_,rfl,?_,jr hx (Gw (Nz uG) b.toNat) (de (by rw[Fk];exact h6) _) e⟩;simp only[Lb,hd,hi,Ka,Vc,h3,zC,oQ gW,Nat.ble_eq_true_of_le c3,Nat.ble_eq_true_of_le (show a.toNat<=b.toNat by omega)];simp only[aD];exact⟨rfl,Od rfl ⟨x.s.nx,rfl,rfl,gW,by omega⟩⟩;cases h
   |_=>simp[hd]at h
  |_=>simp[hd]at h
 |_=>simp[hd]at h
end
end Go.Vx
