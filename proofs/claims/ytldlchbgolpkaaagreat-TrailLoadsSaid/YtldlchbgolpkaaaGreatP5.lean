import Derived.IntWalk
import Derived.Test.YtldlchbgolpkaaaGreatP4
set_option linter.all false
namespace Go.Rx
open Go
def WP(P:H0)(c:Code)(tm:V O)(s:S)(Q:Exit->V O->S->Prop):Prop :=
 ∀m w a,fY m s w->vX m s.nx tm a->a.defers=[]->
  c.wp P (fun e a' w'=>∃m' tm' s',Q e tm' s'/\bG m s w m' s' w'/\vX m' s'.nx tm' a'/\a'.defers=[]) a w
def Less(s s':S):Prop:=s.nx<=s'.nx/\∀i b,lk s'.h i=some b->lk s.h i=some b
def bG.less{m:Nm}{s s':S}{w:PL}(h:fY m s w)(hl:Less s s'):bG m s w m s' w:=by refine⟨aI.refl _ _,hl.1,fun m' ha=>?_,?_,fun _ _ _=>rfl,zF _,rfl,rfl,rfl⟩;have hf:=h m' (ha.mono hl.1);exact⟨fun i b hb=>hf.ok i b (hl.2 i b hb),fun i j b c hb hc=>hf.inj i j b c (hl.2 i b hb) (hl.2 j c hc),fun i b hb=>Nat.lt_of_lt_of_le (hf.bd i b (hl.2 i b hb)) hl.1⟩;rintro k ⟨j,d,hd,ho,rfl⟩;exact .inl ⟨j,d,hl.2 j d hd,ho,rfl⟩
def wrap_i64{x:Int}(h1 : -9223372036854775808<=x)(h2:x<=9223372036854775807):IntKind.i64.wrap x=x:=IntWalk.i64_in x ⟨h1,h2⟩
section
variable{P:H0}{Q:Exit->V O->S->Prop}{tm:V O}{s:S}
def WP.exit{id:Nat}(h:Q (.exit id) tm s):WP P (.exit id) tm s Q:=fun m _ _ hf ha hd=>wp_exit ⟨m,tm,s,h,bG.refl hf,ha,hd⟩
def z04(id:Nat)(Q:Exit->V O->S->Prop):Exit->V O->S->Prop
 |.exit id',tm,s=>if id'=id then Q .normal tm s else Q (.exit id') tm s|e,tm,s=>Q e tm s
def WP.block{id:Nat}{c:Code}(h:WP P c tm s (z04 id Q)):WP P (.block id c) tm s Q:=fun m w a hf ha hd=>by
 refine wp_block (wp_mono (h m w a hf ha hd) ?_);rintro e a' w' ⟨m',tm',s',h1,h2,h3,h4⟩;cases e with
 |exit id'=>simp[Exit.inBlock];simp[z04]at h1;by_cases KA:id'=id;simp[KA,if_true]at h1 ⊢;exact⟨m',tm',s',h1,h2,h3,h4⟩;simp[KA,if_false]at h1 ⊢;exact⟨m',tm',s',h1,h2,h3,h4⟩|_=>exact⟨m',tm',s',h1,h2,h3,h4⟩
variable{T:Tb}(hT:kT P T){call:GY}(hC:Fi P call)
include hT hC
end
def p0(tm:V O)(op:Op):M O :=
 match op with
 |.move x=>evalO tm x|.assign x=>evalO tm x
 |.pick c a b=>match evalO tm c with
  |some (.bool true)=>evalO tm a|some (.bool false)=>evalO tm b
  |_=>none
 |.nilCheck x=>match evalO tm x with
  |some (.pointer (some a))=>some (.pointer (some a))|_=>none
 |.binOp op _ x y _=>match evalO tm x,evalO tm y with
  |some (.int k a),some (.int k' b)=>kS op k a k' b|_,_=>none
 |.unOp op _ x=>match evalO tm x with
  |some a=>QK op a|none=>none
 |.makeFunc fn first cap=>match kW tm first.toList,kW tm cap.toList with
  |some a,some b=>some (.func fn a.toArray b.toArray)|_,_=>none
 |.extract x i=>match evalO tm x with
  |some a=>Gd a i|none=>none
 |.call c=>match c.callee with
  |.builtin .max=>match kW tm c.args.toList with
   |some (x::l)=>yR R7 x l|_=>none
  |.builtin .min=>match kW tm c.args.toList with
   |some (x::l)=>yR R6 x l|_=>none
  |_=>none
 |_=>none
section
variable{T:Tb}{call:GY}{aB rest:V Oper}{o:Oper}{tm:V O}{s:S}{K:V O->S->Prop}
end
section
variable{P:H0}{Q:Exit->V O->S->Prop}{tm:V O}{s:S}{T:Tb}(hT:kT P T){call:GY}(hC:Fi P call)
include hT hC
end
end Go.Rx
namespace Go.Vx
open Go Go.Rx
inductive U where
 |junk
 |bool (b:Bool)
 |int (k:IntKind) (n:Int)
 |str (s:List UInt8)
 |nilp
 |ptr (k st off:Nat)
 |iptr (l:List U)
 |nils
 |sl (k off n c:Nat)
 |vl (k st off n:Nat)
 |isl (t:Bool) (l:List (List U))
 |nilm
 |map (k:Nat)
 |fn (f:Fn) (first cap:List U)
 |nilf
 |nili
 |agg (l:List U)
 |tup (l:List U)
 deriving Inhabited
def okC:U->D1
 |.junk=>false|.agg _=>false
 |.tup _=>false|_=>true
def okL:V U->D1
 |[]=>true|u::l=>cond (okC u) (okL l) false
def M9(l:V U):okL l=true↔∀u∈l,okC u=true:=by induction l with|nil=>simp[okL]|cons u l ih=>cases h:okC u<;>simp[okL,h,ih]
structure ME where
 key:U
 val:U
 born:Nat
inductive B where
 |row (l:List U) (e:TypeId)
 |vec (l:List U) (e:TypeId) (sz st:Nat)
 |map (es:List ME) (cl:Nat)
structure Sg where
 h:V (Nat×B)
 nx:Nat
def gt:V (Nat×B)->Nat->M B
 |[],_=>none|(j,b)::h,i=>cond (Nat.beq j i) (some b) (gt h i)
def ug:V (Nat×B)->Nat->B->V (Nat×B)
 |[],_,_=>[]|(j,b)::h,i,c=>cond (Nat.beq j i) ((j,c)::h) ((j,b)::ug h i c)
def rg:V (Nat×B)->Nat->V (Nat×B)
 |[],_=>[]|(j,b)::h,i=>cond (Nat.beq j i) (rg h i) ((j,b)::rg h i)
def eN(j:Nat)(b:B)(h:V (Nat×B))(i:Nat):gt ((j,b)::h) i=if j=i then some b else gt h i:=by simp only[gt,beq_eq];by_cases e:j=i<;>simp[e]
def R8(h:V (Nat×B))(i:Nat)(c:B)(j:Nat):gt (ug h i c) j=if i=j then(gt h i).map (fun _=>c)else gt h j:=by induction h with|nil=>simp[ug,gt]|cons x h ih=>have⟨k,b⟩:=x;simp[ug,beq_eq];by_cases e:k=i;subst e;simp[yC,zC,eN];by_cases e2:k=j<;>simp[e2];simp[e,yB,zD,eN,ih];by_cases e2:i=j;subst e2;simp[e];by_cases e3:k=j<;>simp[e2,e3]
def gt_rg(h:V (Nat×B))(i j:Nat):gt (rg h i) j=if i=j then none else gt h j:=by induction h with|nil=>simp[rg,gt]|cons x h ih=>have⟨k,b⟩:=x;simp[rg,beq_eq];by_cases e:k=i;subst e;simp[yC,zC,eN,ih];by_cases e2:k=j<;>simp[e2];simp[e,yB,zD,eN,ih];by_cases e2:i=j;subst e2;simp[e];by_cases e3:k=j<;>simp[e2,e3]
def B.st:B->Nat
 |.vec _ _ _ st=>st|_=>0
structure Cx where
 Y:Nat->M Nat
 X:Sg
 s:S
def Ref(x:Cx)(k st:Nat)(p:M Nat->Prop):Prop:=k<x.X.nx/\∀b,gt x.X.h k=some b->st<=b.st/\(st=b.st->p (x.Y k))
def I5(off n:Nat)(v:O)(sz:Nat):M Nat->Prop
 |none=>off=0/\n=0/\∃o,v=.slice o 0 0/\∀a,o=some a->a.spot=none|some i=>(0<off/\n=0/\∃a c,v=.slice (some a) 0 c/\a.spot=none)\/v=.slice (some ⟨i,off*sz,none⟩) n (bY+off)
mutual
def aD(x:Cx):U->O->Prop
 |.junk,_=>True|.bool b,v=>v=.bool b
 |.int k n,v=>v=.int k n|.str l,v=>v=.string ⟨⟨l⟩⟩
 |.nilp,v=>v=.pointer none|.ptr k st off,v=>v.oneCell'=true/\Ref x k st fun o=>∃i,o=some i/\v=.pointer (some ⟨i,off,none⟩)
 |.iptr l,v=>∃i off row e,v=.pointer (some ⟨i,off,none⟩)/\lk x.s.h i=some (.inl (row,e,1))/\cO x l (row.drop off)/\okL l=true|.nils,v=>v=.slice none 0 0
 |.sl k off n c,v=>v.oneCell'=true/\Ref x k 0 fun o=>∃i,o=some i/\v=.slice (some ⟨i,off,none⟩) n c/\c<bY/\n<=c
 |.vl k st off n,v=>v.oneCell'=true/\k<x.X.nx/\∀b,gt x.X.h k=some b->st<=b.st/\(st=b.st->∃l e sz,b=.vec l e sz st/\I5 off n v sz (x.Y k))|.isl t l,v=>(l=[]/\(v=.slice none 0 0\/∃r,v=.chan (some r)))\/∃i off c,v=.slice (some ⟨i,off,none⟩) l.length c/\(t=true->c=l.length/\c<bY)/\
   (l=[]\/∃row e sz,lk x.s.h i=some (.inl (row,e,1))/\iX x sz l (row.drop off)/\ ((c<bY/\l.length<=c)\/(bY<=c/\e=sz+1/\0<sz/\off=bR c*sz/\off+l.length*sz<=row.length)))
 |.nilm,v=>v=.map none|.map k,v=>v.oneCell'=true/\Ref x k 0 fun o=>∃i,o=some i/\v=.map (some i)
 |.fn f a b,v=>∃va vb,v=.func f ⟨va⟩ ⟨vb⟩/\cO x a va/\a.length=va.length/\cO x b vb/\b.length=vb.length|.nilf,v=>v=.nilFunc
 |.nili,v=>v=.nilIface|.agg l,v=>∃vs,v=.agg ⟨vs⟩/\cO x l vs/\l.length=vs.length/\okL l=true
 |.tup l,v=>∃vs,v=.tuple ⟨vs⟩/\cO x l vs/\l.length=vs.length
def cO(x:Cx):V U->V O->Prop
 |[],_=>True|u::us,vs=>match vs with
  |[]=>False|v::vs=>aD x u v/\cO x us vs
def iX(x:Cx)(sz:Nat):V (V U)->V O->Prop
 |[],_=>True|c::cs,vs=>c.length=sz/\okL c=true/\cO x c vs/\iX x sz cs (vs.drop sz)
end
mutual
def bA(n:Nat):U->Prop
 |.ptr k _ _=>k<n|.sl k _ _ _=>k<n
 |.vl k _ _ _=>k<n|.map k=>k<n
 |.iptr l=>aM n l|.isl _ l=>mR n l
 |.fn _ a b=>aM n a/\aM n b|.agg l=>aM n l
 |.tup l=>aM n l|_=>True
def aM(n:Nat):V U->Prop
 |[]=>True|u::us=>bA n u/\aM n us
def mR(n:Nat):V (V U)->Prop
 |[]=>True|c::cs=>aM n c/\mR n cs
end
def J5(x:Cx):∀(l:V U)(vs:V O),cO x l vs↔∀(i:Nat)(u:U),l[i]? = some u->∃v,vs[i]? = some v/\aD x u v
 |[],vs=>by simp[cO]
 |u::us,[]=>by simp only[cO,false_iff];intro h;have⟨v,hv,_⟩:=h 0 u rfl;simp at hv
 |u::us,v::vs=>by
  simp[cO,J5 x us vs];constructor;rintro⟨h1,h2⟩ i w hi;cases i with
  |zero=>simp at hi;subst hi;exact⟨v,rfl,h1⟩|succ i=>simp at hi;simpa using h2 i w hi
  intro h;refine⟨?_,fun i w hi=>by simpa using h (i+1) w (by simpa using hi)⟩;have⟨v',h1,h2⟩:=h 0 u rfl;simp at h1;subst h1;exact h2
def HE(n:Nat):∀l:V U,aM n l↔∀u∈l,bA n u
 |[]=>by simp[aM]
 |u::us=>by simp[aM,HE n us]
def qzg(n:Nat):∀l:V (V U),mR n l↔∀c∈l,aM n c
 |[]=>by simp[mR]
 |u::us=>by simp[mR,qzg n us]
structure Mo(n:Nat)(x y:Cx):Prop where
 ref:∀k,k<n->k<x.X.nx->k<y.X.nx/\∀b',gt y.X.h k=some b'->∃b,gt x.X.h k=some b/\b.st<=b'.st/\(b.st=b'.st->y.Y k=x.Y k/\∀l e sz st,b=.vec l e sz st->∃l',b'=.vec l' e sz st)
 imm:∀i row e,lk x.s.h i=some (.inl (row,e,1))->lk y.s.h i=some (.inl (row,e,1))
variable{n:Nat}
variable{x:Cx}
variable{y:Cx}
def Mo.ref'(h:Mo n x y){k st:Nat}{p:M Nat->Prop}(hk:k<n)(hr:Ref x k st p):Ref y k st p:=by
 have⟨h1,h2⟩:=hr;have⟨g1,g2⟩:=h.ref k hk h1;refine⟨g1,fun b' cP=>?_⟩;have⟨b,e1,e2,e3⟩:=g2 b' cP;have⟨e4,e5⟩:=h2 b e1;refine⟨Nat.le_trans e4 e2,fun e=>?_⟩;have:b.st=b'.st:=by omega
 rw[(e3 this).1];exact e5 (by omega)
mutual
def aD.mono{n:Nat}{x y:Cx}(h:Mo n x y):(u:U)->(v:O)->bA n u->aD x u v->aD y u v
 |.junk,v,_,_=>by simp[aD]
 |.bool b,v,_,hr=>by simpa[aD]using hr
 |.int k z,v,_,hr=>by simpa[aD]using hr
 |.str l,v,_,hr=>by simpa[aD]using hr
 |.nilp,v,_,hr=>by simpa[aD]using hr
 |.ptr k st off,v,hb,hr=>by simp only[aD]at*;exact⟨hr.1,h.ref' (by simpa[bA]using hb) hr.2⟩
 |.iptr l,v,hb,hr=>by simp only[aD]at*;obtain⟨i,off,row,e,h1,h2,h3,h4⟩:=hr;exact⟨i,off,row,e,h1,h.imm _ _ _ h2,cO.mono h l _ (by simpa[bA]using hb) h3,h4⟩
 |.nils,v,_,hr=>by simpa[aD]using hr
 |.sl k off m c,v,hb,hr=>by simp[aD]at*;exact⟨hr.1,h.ref' (by simpa[bA]using hb) hr.2⟩
 |.vl k st off m,v,hb,hr=>by
  simp[aD]at*;have⟨h0,h1,h2⟩:=hr;have⟨g1,g2⟩:=h.ref k (by simpa[bA]using hb) h1;refine⟨h0,g1,fun b' cP=>?_⟩;have⟨b,e1,e2,e3⟩:=g2 b' cP;have⟨e4,e5⟩:=h2 b e1;refine⟨Nat.le_trans e4 e2,fun e=>?_⟩;have e6:b.st=b'.st:=by omega
  have⟨l,e',sz,e7,e8⟩:=e5 (by omega);have⟨e9,e10⟩:=e3 e6;have⟨l',e11⟩:=e10 _ _ _ _ e7;rw[e9];exact⟨l',e',sz,e11,e8⟩
 |.isl t l,v,hb,hr=>by simp only[aD]at*;rcases hr with hr |⟨i,off,c,h1,h2,h3⟩;exact .inl hr;refine .inr ⟨i,off,c,h1,h2,?_⟩;rcases h3 with h3 |⟨row,e,sz,g1,g2,g3⟩;exact .inl h3;exact .inr ⟨row,e,sz,h.imm _ _ _ g1,iX.mono h l _ (by simpa[bA]using hb) g2,g3⟩
 |.nilm,v,_,hr=>by simpa[aD]using hr
 |.map k,v,hb,hr=>by simp[aD]at*;exact⟨hr.1,h.ref' (by simpa[bA]using hb) hr.2⟩
 |.fn f a b,v,hb,hr=>by simp[aD]at*;have⟨va,vb,h1,h2,h3,h4,h5⟩:=hr;simp[bA]at hb;exact⟨va,vb,h1,cO.mono h a _ hb.1 h2,h3,cO.mono h b _ hb.2 h4,h5⟩
 |.nilf,v,_,hr=>by simpa[aD]using hr
 |.nili,v,_,hr=>by simpa[aD]using hr
 |.agg l,v,hb,hr=>by simp[aD]at*;have⟨vs,h1,h2,h3⟩:=hr;exact⟨vs,h1,cO.mono h l _ (by simpa[bA]using hb) h2,h3⟩
 |.tup l,v,hb,hr=>by simp[aD]at*;have⟨vs,h1,h2,h3⟩:=hr;exact⟨vs,h1,cO.mono h l _ (by simpa[bA]using hb) h2,h3⟩
def cO.mono{n:Nat}{x y:Cx}(h:Mo n x y):(l:V U)->(vs:V O)->aM n l->cO x l vs->cO y l vs
 |[],_,_,_=>by simp[cO]
 |u::us,[],_,hr=>by simp[cO]at hr
 |u::us,v::vs,hb,hr=>by simp[cO,aM]at*;exact⟨aD.mono h u v hb.1 hr.1,cO.mono h us vs hb.2 hr.2⟩
def iX.mono{n sz:Nat}{x y:Cx}(h:Mo n x y):(l:V (V U))->(vs:V O)->mR n l->iX x sz l vs->iX y sz l vs
 |[],_,_,_=>by simp[iX]
 |c::cs,vs,hb,hr=>by simp[iX,mR]at*;exact⟨hr.1,hr.2.1,cO.mono h c vs hb.1 hr.2.2.1,iX.mono h cs _ hb.2 hr.2.2.2⟩
end
mutual
def aD.bel{x:Cx}:(u:U)->(v:O)->aD x u v->bA x.X.nx u
 |.ptr k st off,v,hr=>by simp[aD,bA]at*;exact hr.2.1
 |.sl k off m c,v,hr=>by simp[aD,bA]at*;exact hr.2.1
 |.vl k st off m,v,hr=>by simp[aD,bA]at*;exact hr.2.1
 |.map k,v,hr=>by simp only[aD,bA]at*;exact hr.2.1
 |.iptr l,v,hr=>by simp only[aD,bA]at*;obtain⟨i,off,row,e,h1,h2,h3,_⟩:=hr;exact cO.bel l _ h3
 |.isl t l,v,hr=>by simp[aD,bA]at*;rcases hr with⟨rfl,_⟩|⟨i,off,c,h1,h2,h3⟩;simp[mR];rcases h3 with rfl |⟨row,e,sz,g1,g2,_⟩;simp[mR];exact iX.bel l _ g2
 |.fn f a b,v,hr=>by simp[aD,bA]at*;have⟨va,vb,h1,h2,h3,h4,h5⟩:=hr;exact⟨cO.bel a _ h2,cO.bel b _ h4⟩
 |.agg l,v,hr=>by simp[aD,bA]at*;have⟨vs,h1,h2,h3⟩:=hr;exact cO.bel l _ h2
 |.tup l,v,hr=>by simp[aD,bA]at*;have⟨vs,h1,h2,h3⟩:=hr;exact cO.bel l _ h2
 |.junk,_,_=>by simp[bA]
 |.bool _,_,_=>by simp[bA]
 |.int _ _,_,_=>by simp[bA]
 |.str _,_,_=>by simp[bA]
 |.nilp,_,_=>by simp[bA]
 |.nils,_,_=>by simp[bA]
 |.nilm,_,_=>by simp[bA]
 |.nilf,_,_=>by simp[bA]
 |.nili,_,_=>by simp[bA]
def cO.bel{x:Cx}:(l:V U)->(vs:V O)->cO x l vs->aM x.X.nx l
 |[],_,_=>by simp[aM]
 |u::us,[],hr=>by simp[cO]at hr
 |u::us,v::vs,hr=>by simp[cO,aM]at*;exact⟨aD.bel u v hr.1,cO.bel us vs hr.2⟩
def iX.bel{x:Cx}{sz:Nat}:(l:V (V U))->(vs:V O)->iX x sz l vs->mR x.X.nx l
 |[],_,_=>by simp[mR]
 |c::cs,vs,hr=>by simp[iX,mR]at*;exact⟨cO.bel c vs hr.2.2.1,iX.bel cs _ hr.2.2.2⟩
end
def bB(x:Cx)(l:V U)(vs:V O):Prop:=cO x l vs/\l.length=vs.length
variable{l:V U}
variable{vs:V O}
variable{u:U}
def bB.get(h:bB x l vs){i:Nat}(hu:l[i]? = some u):∃v,vs[i]? = some v/\aD x u v:=(J5 x l vs).1 h.1 i u hu
def bB.mk'(hl:l.length=vs.length)(h:∀(i:Nat)(u:U),l[i]? = some u->∃v,vs[i]? = some v/\aD x u v):bB x l vs:=⟨(J5 x l vs).2 h,hl⟩
def bB.nil(x:Cx):bB x [] []:=⟨by simp[cO],rfl⟩
def bB.cons{v:O}(h:aD x u v)(h':bB x l vs):bB x (u::l) (v::vs):=⟨by simp[cO,h,h'.1],by simp[h'.2]⟩
def bB.inv(h:bB x (u::l) vs):∃v rZ,vs=v::rZ/\aD x u v/\bB x l rZ:=by have⟨h1,h2⟩:=h;rcases vs with _|⟨v,vs⟩;simp at h2;simp[cO]at h1;exact⟨v,vs,rfl,h1.1,h1.2,by simpa using h2⟩
def bB.nil_inv(h:bB x [] vs):vs=[]:=by have:=h.2;simpa using this.symm
def bB.append{a b:V U}{va vb:V O}(h:bB x a va)(h':bB x b vb):bB x (a++b) (va++vb):=by induction a generalizing va with|nil=>rw[h.nil_inv];exact h'|cons u a ih=>obtain⟨v,vs,rfl,h1,h2⟩:=h.inv;exact bB.cons h1 (ih h2)
def bB.drop{x:Cx}{a:V U}{va:V O}(h:bB x a va)(n:Nat):bB x (a.drop n) (va.drop n):=by refine bB.mk' (by simp[h.2]) fun i u hu=>?_;rw[List.getElem?_drop]at hu ⊢;exact h.get hu
def bB.take{x:Cx}{a:V U}{va:V O}(h:bB x a va)(n:Nat):bB x (a.take n) (va.take n):=by refine bB.mk' (by simp[h.2]) fun i u hu=>?_;rw[List.getElem?_take]at hu ⊢;split at hu;rename_i aF;simp[aF,if_true];exact h.get hu;cases hu
def bB.set{x:Cx}{a:V U}{va:V O}(h:bB x a va)(n:Nat){u:U}{v:O}(hu:aD x u v):bB x (a.set n u) (va.set n v):=by refine bB.mk' (by simp[h.2]) fun i w hw=>?_;rw[List.getElem?_set]at hw ⊢;split at hw;split at hw;cases hw;rename_i h1 h2;subst h1;rw[h.2]at h2;simp[h2,hu];cases hw;rename_i d5;simp[d5,if_false];exact h.get hw
def bB.mono{n:Nat}{x y:Cx}(h:Mo n x y){l:V U}{vs:V O}(hb:aM n l)(hr:bB x l vs):bB y l vs:=⟨cO.mono h l vs hb hr.1,hr.2⟩
def cO.takeE(h:cO x l vs):bB x l (vs.take l.length):=by
 refine bB.mk' ?_ fun i u hu=>?_;rcases Nat.lt_or_ge vs.length l.length with aF |EB
 have hu:l[vs.length]? = some l[vs.length]:=by simp[aF]
 have⟨v,hv,_⟩:=(J5 x l vs).1 h _ _ hu;simp at hv;simp;omega;have⟨v,hv,hr⟩:=(J5 x l vs).1 h i u hu;have:i<l.length:=(zG.1 hu).1;exact⟨v,by rw[List.getElem?_take];simp[this,hv],hr⟩
def cO.len(h:cO x l vs):l.length<=vs.length:=by have:=h.takeE.2;rw[List.length_take]at this;omega
def cO.drop{x:Cx}{l:V U}{vs:V O}(h:cO x l vs)(n:Nat):cO x (l.drop n) (vs.drop n):=by rw[J5]at*;intro i u hu;rw[List.getElem?_drop]at hu ⊢;exact h _ _ hu
def uE(x:Cx)(es:V ME)(vs:V MapEntry):Prop:=es.length=vs.length/\∀(i:Nat)(e:ME),es[i]? = some e->∃v:MapEntry,vs[i]? = some v/\aD x e.key v.key/\aD x e.val v.val/\v.born=e.born
def oB(x:Cx)(k:Nat):B->Prop
 |.row l e=>okL l=true/\∃i l',x.Y k=some i/\lk x.s.h i=some (.inl (l',e,0))/\bB x l l'|.vec l e sz _=>okL l=true/\0<sz/\(l=[]/\x.Y k=none\/∃i l',x.Y k=some i/\lk x.s.h i=some (.inl (l',e,sz+2))/\bB x l l')
 |.map es cl=>∃i es',x.Y k=some i/\lk x.s.h i=some (.inr (es',cl))/\uE x es es'
structure jY(x:Cx):Prop where
 ok:∀k b,gt x.X.h k=some b->k<x.X.nx/\oB x k b
 inj:∀k k' b b' i,gt x.X.h k=some b->gt x.X.h k'=some b'->x.Y k=some i->x.Y k'=some i->k=k'
 bd:∀i b,lk x.s.h i=some b->i<x.s.nx
def Fr(F:Nat->lP->Prop)(x:Cx):Prop:=∀i b,F i b->lk x.s.h i=some b/\∀k c,gt x.X.h k=some c->x.Y k≠some i
def Ke(n:Nat)(x y:Cx):Prop:=∀u v,bA n u->aD x u v->aD y u v
def Ke.refl(n:Nat)(x:Cx):Ke n x x:=fun _ _ _ h=>h
def Ke.trans{z:Cx}(h:Ke n x y)(h':Ke n y z):Ke n x z:=fun u v hb hr=>h' u v hb (h u v hb hr)
mutual
def bA.le{n k:Nat}(h:n<=k):(u:U)->bA n u->bA k u
 |.ptr a _ _,hb=>by simp[bA]at*;omega
 |.sl a _ _ _,hb=>by simp[bA]at*;omega
 |.vl a _ _ _,hb=>by simp[bA]at*;omega
 |.map a,hb=>by simp[bA]at*;omega
 |.iptr l,hb=>by simp[bA]at*;exact aM.le h l hb
 |.isl t l,hb=>by simp[bA]at*;exact mR.le h l hb
 |.fn f a b,hb=>by simp[bA]at*;exact⟨aM.le h a hb.1,aM.le h b hb.2⟩
 |.agg l,hb=>by simp[bA]at*;exact aM.le h l hb
 |.tup l,hb=>by simp[bA]at*;exact aM.le h l hb
 |.junk,_=>by simp[bA]
 |.bool _,_=>by simp[bA]
 |.int _ _,_=>by simp[bA]
 |.str _,_=>by simp[bA]
 |.nilp,_=>by simp[bA]
 |.nils,_=>by simp[bA]
 |.nilm,_=>by simp[bA]
 |.nilf,_=>by simp[bA]
 |.nili,_=>by simp[bA]
def aM.le{n k:Nat}(h:n<=k):(l:V U)->aM n l->aM k l
 |[],_=>by simp[aM]
 |u::us,hb=>by simp[aM]at*;exact⟨bA.le h u hb.1,aM.le h us hb.2⟩
def mR.le{n k:Nat}(h:n<=k):(l:V (V U))->mR n l->mR k l
 |[],_=>by simp[mR]
 |u::us,hb=>by simp[mR]at*;exact⟨aM.le h u hb.1,mR.le h us hb.2⟩
end
def Ke.le{n k:Nat}{x y:Cx}(h:Ke k x y)(hk:n<=k):Ke n x y:=fun u v hb hr=>h u v (bA.le hk u hb) hr
def Mo.ke(h:Mo n x y):Ke n x y:=fun u v hb hr=>aD.mono h u v hb hr
def Ke.E(h:Ke n x y)(hb:aM n l)(hr:bB x l vs):bB y l vs :=
 bB.mk' hr.2 fun i u hu=>by have⟨v,h1,h2⟩:=hr.get hu;exact⟨v,h1,h u v ((HE n l).1 hb u (zX hu)) h2⟩
def bB.bel{x:Cx}{l:V U}{vs:V O}(hr:bB x l vs):aM x.X.nx l:=cO.bel l vs hr.1
mutual
def toV:U->M O
 |.bool b=>some (.bool b)|.int k n=>some (.int k n)
 |.str s=>some (.string ⟨⟨s⟩⟩)|.nilp=>some (.pointer none)
 |.nils=>some (.slice none 0 0)|.nilm=>some (.map none)
 |.nilf=>some .nilFunc|.nili=>some .nilIface
 |.agg l=>cond (okL l) (match eG l with
  |some vs=>some (.agg ⟨vs⟩)|none=>none) none
 |_=>none
def eG:V U->M (V O)
 |[]=>some []|u::l=>match toV u with
  |some v=>(match eG l with
   |some vs=>some (v::vs)|none=>none)
  |none=>none
end
mutual
def iI:O->M U
 |.bool b=>some (.bool b)|.int k n=>some (.int k n)
 |.string s=>some (.str s.data.toList)|.pointer none=>some .nilp
 |.slice none n c=>match n,c with
  |0,0=>some .nils|_,_=>none
 |.map none=>some .nilm|.nilFunc=>some .nilf
 |.nilIface=>some .nili|.agg ⟨l⟩=>match qC l with
  |some us=>cond (okL us) (some (.agg us)) none|none=>none
 |_=>none
def qC:V O->M (V U)
 |[]=>some []|v::l=>match iI v with
  |some u=>(match qC l with
   |some us=>some (u::us)|none=>none)
  |none=>none
end
def xY:U->M (V U)
 |.junk=>none|.tup _=>none
 |.agg l=>some l|u=>some [u]
def cB(tm:V U):EW->M U
 |.tmp t=>nth tm t|.const v=>iI v
 |.func f=>some (.fn (.func f) [] [])|.global _=>none
def mJ(tm:V U):V EW->M (V U)
 |[]=>some []|x::l=>match cB tm x with
  |some v=>(match mJ tm l with
   |some r=>some (v::r)|none=>none)
  |none=>none
def B6(tm:V U):V (Nat×EW)->M (V (Nat×U))
 |[]=>some []|(i,x)::l=>match cB tm x with
  |some v=>(match B6 tm l with
   |some r=>some ((i,v)::r)|none=>none)
  |none=>none
def xX(tm:V U):M EW->M (M O)
 |none=>some none|some x=>match cB tm x with
  |some (.int k n)=>some (some (.int k n))|_=>none
def cM(X:Sg)(k st:Nat):D1:=match gt X.h k with
 |some b=>Nat.beq b.st st|none=>false
def cellsOf(X:Sg)(k st:Nat):M (V U):=match gt X.h k with
 |some (.row l _)=>cond (Nat.beq 0 st) (some l) none|some (.vec l _ _ cD)=>cond (Nat.beq cD st) (some l) none
 |_=>none
def rowOf(X:Sg)(k:Nat):M (V U):=match gt X.h k with
 |some (.row l _)=>some l|_=>none
def B0(X:Sg)(k st:Nat):M (V U×TypeId×Nat):=match gt X.h k with
 |some (.vec l e sz cD)=>cond (Nat.beq cD st) (some (l,e,sz)) none|_=>none
def M6(X:Sg)(k:Nat)(l:V U):M Sg:=match gt X.h k with
 |some (.row _ e)=>some ⟨ug X.h k (.row l e),X.nx⟩|some (.vec _ e sz st)=>some ⟨ug X.h k (.vec l e sz st),X.nx⟩
 |_=>none
def lD(l:V U)(off n:Nat):M (V U):=if off+n<=l.length then some ((l.drop off).take n)else none
def qB(l:V U)(off:Nat)(vs:V U):M (V U):=if off+vs.length<=l.length then some (l.take off++(vs++l.drop (off+vs.length)))else none
def qi(T:Tb)(t:TypeId)(cs:V U)(off:Nat):M U :=
 match T.und t with
 |none=>none|some d=>cond (sF d) (match cT T t with
   |some n=>some (.agg ((cs.drop off).take n))|none=>none) (nth cs off)
def uX(place:Nat->M (Nat×Nat))(cells:V U):V (Nat×U)->M (V U)
 |[]=>some cells|(i,v)::rest=>match place i with
  |none=>none|some (off,size)=>match xY v with
   |none=>none|some cs=>cond (Nat.beq cs.length size) (match qB cells off cs with
    |some c=>uX place c rest|none=>none) none
def Fh(T:Tb)(t:TypeId)(ps:V (Nat×U)):M U :=
 match T.inf t with
 |none=>none|some (_,_,z)=>match qC z.cells.toList with
  |none=>none|some zu=>match T.und t with
   |some (.struct fs)=>cond (J1 T fs.toList) (match uX (MB T fs.toList) zu ps with
    |some cs=>cond (okL cs) (some (.agg cs)) none|none=>none) none
   |some (.array _ e)=>(match cT T e with
    |none=>none|some n=>match uX (fun i=>some (i*n,n)) zu ps with
     |some cs=>cond (okL cs) (some (.agg cs)) none|none=>none)
   |_=>none
def g1(f:O->M O)(u:U):M U:=match toV u with
 |some v=>(match f v with
  |some r=>iI r|none=>none)
 |none=>none
def g2(f:O->O->M O)(a b:U):M U:=match toV a with
 |some x=>(match toV b with
  |some y=>(match f x y with
   |some r=>iI r|none=>none)
  |none=>none)
 |none=>none
def iG(X:Sg):U->Nat
 |.ptr k st _=>cond (cM X k st) 1 0|.iptr _=>1
 |.sl k _ _ _=>cond (cM X k 0) 2 0|.vl k st _ (_+1)=>cond (cM X k st) 2 0
 |.isl _ (_::_)=>2|.map k=>cond (cM X k 0) 3 0
 |_=>0
def MA:U->Nat
 |.nilp=>1|.nils=>2
 |.nilm=>3|_=>0
def B3(T:Tb)(t:TypeId):Nat:=match T.und t with
 |some (.pointer _)=>1|some (.slice _)=>2
 |some (.map _ _)=>3|_=>0
def GD:BinOp->M U
 |.eql=>some (.bool false)|.neq=>some (.bool true)
 |_=>none
def Fb(T:Tb)(X:Sg)(op:BinOp)(t:TypeId)(x y:U):M U :=
 cond (Nat.beq (B3 T t) 0) none (cond (cond (Nat.beq (iG X x) (B3 T t)) (Nat.beq (MA y) (B3 T t)) (cond (Nat.beq (MA x) (B3 T t)) (Nat.beq (iG X y) (B3 T t)) false)) (GD op) none)
def LC(T:Tb)(X:Sg)(op:BinOp)(t:TypeId)(x y:U):M U:=match g2 (rD T op t) x y with
 |some r=>some r|none=>Fb T X op t x y
def Ob(T:Tb)(X:Sg)(st:TypeId)(x:U)(f:Nat):M U :=
 match T.und st with
 |some (.struct fs)=>match nth fs.toList f with
  |some fd=>(match cT T fd.type with
   |some (_+1)=>match x with
    |.ptr k s off=>cond (cM X k s) (some (.ptr k s (off+fd.offset))) none|.iptr l=>some (.iptr (l.drop fd.offset))
    |_=>none
   |_=>none)
  |none=>none
 |_=>none
def cq(T:Tb)(st:TypeId)(x:U)(f:Nat):M U :=
 match T.und st with
 |some (.struct fs)=>match nth fs.toList f with
  |some fd=>(match x with
   |.agg cs=>qi T fd.type cs fd.offset|_=>none)
  |none=>none
 |_=>none
def HC(T:Tb)(X:Sg)(t:TypeId)(x ix:U):M U :=
 match ix with
 |.int _ i=>match T.und t with
  |some (.slice e)=>(match cT T e with
   |some sz=>match x with
    |.sl k off n _=>cond (cM X k 0) (if 0<=i/\i<n then some (.ptr k 0 (off+i.toNat*sz))else none) none|.vl k st off n=>(match B0 X k st with
     |some (l,_,j9)=>cond (Nat.beq j9 sz) (if 0<=i/\i<n/\l≠[]then some (.ptr k st (off*sz+i.toNat*sz))else none) none|none=>none)
    |.isl _ l=>if 0<=i/\i<l.length then(match l[i.toNat]? with
     |some c=>cond (Nat.beq c.length sz) (some (.iptr c)) none|none=>none)else none
    |_=>none
   |none=>none)
  |some (.array n e)=>(match cT T e with
   |some sz=>match x with
    |.ptr k st off=>cond (cM X k st) (if 0<=i/\i<n then some (.ptr k st (off+i.toNat*sz))else none) none|.iptr l=>if 0<=i/\i<n then some (.iptr (l.drop (i.toNat*sz)))else none
    |_=>none
   |none=>none)
  |_=>none
 |_=>none
def ze(T:Tb)(t:TypeId)(x ix:U):M U :=
 match x with
 |.agg cs=>(match ix with
  |.int _ i=>match T.und t with
   |some (.array n e)=>(if 0<=i/\i<n then(match cT T e with
    |some sz=>qi T e cs (i.toNat*sz)|none=>none)else none)
   |_=>none
  |_=>none)
 |_=>g2 (XK T t) x ix
def xv(x:U)(i:Nat):M U:=match x with
 |.tup vs=>nth vs i|_=>none
def lenU(T:Tb)(X:Sg)(t:TypeId)(x:U):M U:=match T.und t with
 |some (.slice _)=>(match x with
  |.nils=>some (.int .i64 0)|.sl k _ n _=>cond (cM X k 0) (some (.int .i64 n)) none
  |.vl k st _ n=>cond (cM X k st) (some (.int .i64 n)) none|.isl _ l=>some (.int .i64 l.length)
  |_=>none)
 |some .string=>(match x with
  |.str s=>some (.int .i64 s.length)|_=>none)
 |some (.array n _)=>(match x with
  |.junk=>none|_=>some (.int .i64 n))
 |some (.map _ _)=>(match x with
  |.nilm=>some (.int .i64 0)|.map k=>(match gt X.h k with
   |some (.map es _)=>some (.int .i64 es.length)|_=>none)
  |_=>none)
 |_=>none
def Dg(T:Tb)(X:Sg)(t:TypeId)(x:U):M U:=match T.und t with
 |some (.slice _)=>(match x with
  |.nils=>some (.int .i64 0)|.sl k _ _ c=>cond (cM X k 0) (some (.int .i64 c)) none
  |_=>none)
 |_=>none
def qE{v11:Type}(l:V v11)(lo hi:Nat):V v11:=(l.take hi).drop lo
def RC(T:Tb)(X:Sg)(t:TypeId)(x:U)(lo hi mx:M O):M U :=
 match T.und t with
 |some .string=>(match x with
  |.str s=>(match mx with
   |some _=>none|none=>match i8 s.length s.length lo hi none with
    |some (l,h,_)=>some (.str (qE s l h))|none=>none)
  |_=>none)
 |some (.slice e)=>(match cT T e with
  |some sz=>match x with
   |.nils=>(match i8 0 0 lo hi mx with
    |some _=>some .nils|none=>none)
   |.sl k off n c=>cond (cM X k 0) (match i8 n c lo hi mx with
    |some (l,h,m)=>some (.sl k (cond (Nat.beq m l) off (off+l*sz)) (h-l) (m-l))|none=>none) none
   |.vl k st off n=>(match B0 X k st with
    |some (r,_,j9)=>cond (Nat.beq j9 sz) (match mx with
     |some _=>none|none=>match i8 n n lo hi none with
      |some (l,h,_)=>if(off+n)*sz<=r.length then some (.vl k st (off+l) (h-l))else none|none=>none) none
    |none=>none)
   |.isl t l=>if(l.all fun c=>Nat.beq c.length sz)=true then(match i8 l.length l.length lo hi mx with
    |some (a,h,m)=>(match mx with
      |some _=>if m<bY then some (.isl (Nat.beq m h) (qE l a h))else none|none=>some (.isl (cond t (Nat.beq h l.length) false) (qE l a h)))
    |none=>none)else none
   |_=>none
  |none=>none)
 |_=>none
def j4(T:Tb)(X:Sg)(tm:V U)(op:Op):M U :=
 match op with
 |.move x=>cB tm x|.assign x=>cB tm x
 |.pick c a b=>(match cB tm c with
  |some (.bool true)=>cB tm a|some (.bool false)=>cB tm b
  |_=>none)
 |.build t ps=>(match B6 tm ps.toList with
  |some qs=>Fh T t qs|none=>none)
 |.nilCheck x=>(match cB tm x with
  |some (.ptr k st off)=>cond (cM X k st) (some (.ptr k st off)) none|some (.iptr l)=>some (.iptr l)
  |some (.fn (.func f) a b)=>some (.fn (.func f) a b)|_=>none)
 |.binOp op t x y _=>(match cB tm x,cB tm y with
  |some a,some b=>LC T X op t a b|_,_=>none)
 |.unOp op _ x=>(match cB tm x with
  |some a=>g1 (QK op) a|none=>none)
 |.convert s d x=>(match cB tm x with
  |some a=>g1 (convX T s d) a|none=>none)
 |.makeFunc fn first cap=>(match mJ tm first.toList,mJ tm cap.toList with
  |some a,some b=>some (.fn fn a b)|_,_=>none)
 |.slice t x lo hi mx=>(match cB tm x,xX tm lo,xX tm hi,xX tm mx with
  |some a,some l,some h,some m=>RC T X t a l h m|_,_,_,_=>none)
 |.fieldAddr t x f=>(match cB tm x with
  |some a=>Ob T X t a f|none=>none)
 |.field t x f=>(match cB tm x with
  |some a=>cq T t a f|none=>none)
 |.indexAddr t x i=>(match cB tm x,cB tm i with
  |some a,some b=>HC T X t a b|_,_=>none)
 |.index t x i=>(match cB tm x,cB tm i with
  |some a,some b=>ze T t a b|_,_=>none)
 |.extract x i=>(match cB tm x with
  |some a=>xv a i|none=>none)
 |.call c=>(match c.callee with
  |.builtin .len=>(match mJ tm c.args.toList,c.argTypes.toList with
   |some [x],t::_=>lenU T X t x|_,_=>none)
  |.builtin .cap=>(match mJ tm c.args.toList,c.argTypes.toList with
   |some [x],t::_=>Dg T X t x|_,_=>none)
  |.builtin .max=>(match mJ tm c.args.toList with
   |some (x::l)=>(match toV x,eG l with
    |some a,some b=>(match yR R7 a b with
     |some r=>iI r|none=>none)
    |_,_=>none)
   |_=>none)
  |.builtin .min=>(match mJ tm c.args.toList with
   |some (x::l)=>(match toV x,eG l with
    |some a,some b=>(match yR R6 a b with
     |some r=>iI r|none=>none)
    |_,_=>none)
   |_=>none)
  |_=>none)
 |_=>none
def C2(T:Tb)(kt:TypeId)(k:O):V ME->Nat->M (M (Nat×U))
 |[],_=>some none|e::es,i=>match toV e.key with
  |none=>none|some k'=>match eqv T 50 kt k k' with
   |some true=>some (some (i,e.val))|some false=>C2 T kt k es (i+1)
   |none=>none
def GX(T:Tb)(t:TypeId)(l:V U)(off:Nat):M U:=match T.und t with
 |none=>none|some d=>cond (sF d) (match cT T t with
   |some n=>(match lD l off n with
    |some cs=>some (.agg cs)|none=>none)
   |none=>none) (nth l off)
def qG(T:Tb)(X:Sg)(tm:V U)(op:Op):M U :=
 match op with
 |.load t x=>(match cB tm x with
  |some (.ptr k st off)=>(match cellsOf X k st with
   |some l=>GX T t l off|none=>none)
  |some (.iptr l)=>GX T t l 0|_=>none)
 |.lookup t x k ok=>(match T.und t,cB tm x,cB tm k with
  |some (.map kt et),some m,some ku=>(match toV ku with
   |none=>none|some kv=>cond (pJ T 50 kt kv)
    (match (match m with
      |.nilm=>some []|.map r=>(match gt X.h r with
       |some (.map es _)=>some es|_=>none)
      |_=>none)with
     |none=>none|some es=>match C2 T kt kv es 0 with
      |none=>none|some (some (_,v))=>some (cond ok (.tup [v,.bool true]) v)
      |some none=>match T.inf et with
       |some (_,_,z)=>(match iI z with
        |some zu=>some (cond ok (.tup [zu,.bool false]) zu)|none=>none)
       |none=>none) none)
  |_,_,_=>none)
 |_=>none
def Kn:U->U
 |.nils=>.isl false []|.isl _ l=>.isl false l
 |u=>u
def rY:V U->V U
 |[]=>[]|u::l=>Kn u::rY l
def newU(X:Sg)(b:B):Sg:=⟨(X.nx,b)::X.h,X.nx+1⟩
def wV(X:Sg)(sz:Nat)(x:U):M (Nat×V U):=match x with
 |.nils=>some (0,[])|.isl _ l=>if(l.all fun c=>Nat.beq c.length sz)=true then some (l.length,l.flatten)else none
 |.sl k off n _=>(match rowOf X k with
  |some l=>(match lD l off (n*sz)with
   |some cs=>some (n,rY cs)|none=>none)
  |none=>none)
 |.vl k st off n=>(match B0 X k st with
  |some (l,_,j9)=>cond (Nat.beq j9 sz) (match lD l (off*sz) (n*sz)with
   |some cs=>some (n,cs)|none=>none) none
  |none=>none)
 |_=>none
def MD(T:Tb)(X:Sg)(t xt:TypeId)(s x:U):M (U×Sg):=
 match T.und t,T.und xt with
 |some (.slice e),some (.slice _)=>(match T.inf e with
  |some (sz+1,by_,z)=>cond (Nat.beq z.cells.toList.length (sz+1)) (match wV X (sz+1) x with
   |none=>none|some (k,new)=>match s with
    |.nils=>if k*by_<=140737488355328/\k<=140737488355328 then some (.vl X.nx 0 0 k,newU X (.vec new e (sz+1) 0))else none|.isl true l=>if(l.length+k)*by_<=140737488355328/\l.length+k<=140737488355328/\0<k/\(l.all fun c=>Nat.beq c.length (sz+1))=true then some (.vl X.nx 0 0 (l.length+k),newU X (.vec (l.flatten++new) e (sz+1) 0))else none
    |.sl a off n c=>(match rowOf X a with
     |none=>none|some l=>match lD l off (n*(sz+1))with
      |none=>none|some old=>if n=0/\c=0 then(if k*by_<=140737488355328/\k<=140737488355328 then some (.vl X.nx 0 0 k,newU X (.vec new e (sz+1) 0))else none)
       else if c<n+k then(if(n+k)*by_<=140737488355328/\n+k<=140737488355328/\0<k then some (.vl X.nx 0 0 (n+k),newU X (.vec (rY old++new) e (sz+1) 0))else none)else none)
    |.vl a st off n=>(match gt X.h a with
     |some (.vec l e' j9 cD)=>cond (Nat.beq cD st) (cond (Nat.beq e' e) (cond (Nat.beq j9 (sz+1)) (match lD l (off*(sz+1)) (n*(sz+1))with
      |none=>none|some p=>if(n+k)*by_<=140737488355328/\n+k<=140737488355328/\(0<k/\(off=0\/0<n)\/off=0/\n*(sz+1)=l.length)then some (.vl a (st+1) 0 (n+k),⟨ug X.h a (.vec (p++new) e (sz+1) (st+1)),X.nx⟩)else none) none) none) none
     |_=>none)
    |_=>none) none
  |_=>none)
 |_,_=>none
def fg(T:Tb)(X:Sg)(t xt:TypeId)(s x:U):M (U×Sg):=
 match T.und t,T.und xt,s,x with
 |some (.slice e),some (.int _),.nils,.int _ i=>(match T.inf e with
  |some (sz+1,by_,z)=>(match qC z.cells.toList with
   |some zu=>if 0<i/\i.toNat*by_<=140737488355328/\i.toNat<=140737488355328/\z.cells.toList.length=sz+1/\okL zu=true then
     some (.vl X.nx 0 0 i.toNat,newU X (.vec (rY (List.replicate i.toNat zu).flatten) e (sz+1) 0))else none
   |none=>none)
  |_=>none)
 |_,_,_,_=>none
def xy(T:Tb)(X:Sg)(t xt:TypeId)(s x:U):M (U×Sg):=match MD T X t xt s x with
 |some r=>some r|none=>fg T X t xt s x
def bj(T:Tb)(X:Sg)(t:TypeId)(d x:U):M (U×Sg):=
 match T.und t with
 |some (.slice e)=>(match cT T e with
  |none=>none|some sz=>match wV X sz x with
   |none=>none|some (k,cs)=>match d with
    |.sl a off n _=>(match rowOf X a with
     |some l=>if n=0\/k=0\/sz=0 then none else(match qB l off (cs.take (Nat.min k n*sz))with
      |some l'=>(match M6 X a l' with
       |some X'=>some (.int .i64 (Nat.min k n),X')|none=>none)
      |none=>none)
     |none=>none)
    |_=>none)
 |_=>none
def GS(X:Sg)(k:Nat)(cs:V U):V U:=match gt X.h k with
 |some (.vec _ _ _ _)=>rY cs|_=>cs
def XC(T:Tb)(X:Sg)(t:TypeId)(p u:U):M (U×Sg):=
 match p with
 |.ptr k st off=>(match cT T t with
  |none=>none|some n=>match xY u with
   |none=>none|some cs=>cond (Nat.beq cs.length n) (cond (okL cs) (match cellsOf X k st with
    |some l=>(match qB l off (GS X k cs)with
     |some l'=>(match M6 X k l' with
      |some X'=>some (.junk,X')|none=>none)
     |none=>none)
    |none=>none) none) none)
 |_=>none
def w4(z:V U)(n:Nat):V U:=(List.replicate n z).flatten
def Ka(T:Tb)(X:Sg)(t:TypeId)(l c:U):M (U×Sg):=
 match T.und t,l,c with
 |some (.slice e),.int _ a,.int _ b=>(match T.inf e with
  |some (sz,by_,z)=>(match qC z.cells.toList with
   |some zu=>cond (okL zu) (cond (Nat.beq z.cells.toList.length sz) (if 0<=a/\a<=b/\by_*b.toNat<=281474976710656/\b<=281474976710656 then
     some (.sl X.nx 0 a.toNat b.toNat,newU X (.row (w4 (rY zu) b.toNat) e))else none) none) none
   |none=>none)
  |none=>none)
 |_,_,_=>none
def ee(T:Tb)(X:Sg)(t:TypeId)(x:U):M (U×Sg):=
 match T.und t with
 |some (.slice e)=>(match T.inf e with
  |some (sz,_,z)=>(match qC z.cells.toList with
   |some zu=>cond (okL zu) (cond (Nat.beq z.cells.toList.length sz) (match x with
    |.vl k st off n=>(match B0 X k st with
     |some (l,e',j9)=>cond (Nat.beq j9 sz) (if n=0 then some (.junk,X)else(match qB l (off*sz) (w4 (rY zu) n)with
      |some l'=>some (.junk,⟨ug X.h k (.vec l' e' j9 st),X.nx⟩)|none=>none)) none
     |none=>none)
    |.nils=>some (.junk,X)|_=>none) none) none
   |none=>none)
  |none=>none)
 |_=>none
def Oi(T:Tb)(X:Sg)(t:TypeId)(n:Nat)(ps:V (Nat×U)):M (U×Sg):=
 match T.und t with
 |some (.slice e)=>(match T.inf e with
  |some (sz,_,z)=>cond (Nat.ble (n*sz) 16777216) (cond (Nat.ble n 16777216) (cond (Nat.beq z.cells.toList.length sz) (match qC z.cells.toList with
   |none=>none|some zu=>match uX (fun i=>some (i*sz,sz)) (w4 zu n) ps with
    |some cs=>cond (okL cs) (some (.sl X.nx 0 n n,newU X (.row cs e))) none|none=>none) none) none) none
  |none=>none)
 |_=>none
def I1(es:V ME)(i:Nat)(f:ME->ME):V ME:=match es,i with
 |[],_=>[]|e::es,0=>f e::es
 |e::es,i+1=>e::I1 es i f
def Kg(b:Int):V ME->Nat->M Nat
 |[],_=>none|e::es,i=>cond (decide ((e.born:Int)=b)) (some i) (Kg b es (i+1))
def Fg(es:V ME)(i:Nat):V ME:=match es,i with
 |[],_=>[]|_::es,0=>es
 |e::es,i+1=>e::Fg es i
def O2(X:Sg)(r:Nat)(es:V ME)(cl:Nat):Sg:=⟨ug X.h r (.map es cl),X.nx⟩
def Mn(T:Tb)(X:Sg)(t:TypeId)(m k v:U):M (U×Sg):=
 match T.und t,m with
 |some (.map kt _),.map r=>(match toV k with
  |none=>none|some kv=>cond (pJ T 50 kt kv) (cond (plain kv) (match gt X.h r with
   |some (.map es cl)=>(match C2 T kt kv es 0 with
    |none=>none|some none=>some (.junk,O2 X r (es++[{ key:=k,val:=v,born:=cl }]) (cl+1))
    |some (some (i,_))=>match nth es i with
     |none=>none|some e=>match toV e.key with
      |none=>none|some kv'=>cond (AT 50 kv' kv) (some (.junk,O2 X r (I1 es i fun e=>{ e with val:=v }) cl)) none)
   |_=>none) none) none)
 |_,_=>none
def ab(T:Tb)(X:Sg)(t:TypeId)(m k:U):M (U×Sg):=
 match T.und t,m with
 |some (.map kt et),.map r=>(match toV k with
  |none=>none|some kv=>cond (pJ T 50 kt kv) (cond (plain kv) (match gt X.h r with
   |some (.map es cl)=>(match C2 T kt kv es 0 with
    |none=>none|some none=>(match T.inf et with
     |none=>none|some (_,_,z)=>match iI z with
      |none=>none|some zu=>some (.tup [zu,.int .i64 cl],O2 X r (es++[{ key:=k,val:=zu,born:=cl }]) (cl+1)))
    |some (some (i,v))=>match nth es i with
     |none=>none|some e=>match toV e.key with
      |none=>none|some kv'=>cond (AT 50 kv' kv) (some (.tup [v,.int .i64 e.born],O2 X r es cl)) none)
   |_=>none) none) none)
 |_,_=>none
def ct(X:Sg)(m st v:U):M (U×Sg):=
 match m,st with
 |.map r,.int _ b=>(match gt X.h r with
  |some (.map es cl)=>(match Kg b es 0 with
   |none=>none|some i=>some (.junk,O2 X r (I1 es i fun e=>{ e with val:=v }) cl))
  |_=>none)
 |_,_=>none
def Cv(T:Tb)(X:Sg)(t:TypeId)(m k:U):M (U×Sg):=
 match T.und t,m with
 |some (.map kt _),.map r=>(match toV k with
  |none=>none|some kv=>cond (pJ T 50 kt kv) (match gt X.h r with
   |some (.map es cl)=>(match C2 T kt kv es 0 with
    |none=>none|some none=>some (.junk,O2 X r es cl)
    |some (some (i,_))=>some (.junk,O2 X r (Fg es i) cl))
   |_=>none) none)
 |_,_=>none
def oY(T:Tb)(X:Sg)(tm:V U)(op:Op):M (U×Sg):=
 match op with
 |.alloc e=>(match T.inf e with
  |some (_,_,z)=>(match qC z.cells.toList with
   |some zu=>cond (okL zu) (some (.ptr X.nx 0 0,newU X (.row zu e))) none|none=>none)
  |none=>none)
 |.box e x=>(match cB tm x with
  |some u=>(match xY u with
   |some cs=>cond (okL cs) (some (.ptr X.nx 0 0,newU X (.row cs e))) none|none=>none)
  |none=>none)
 |.store t a x=>(match cB tm a,cB tm x with
  |some p,some v=>XC T X t p v|_,_=>none)
 |.buildSlice t n ps=>(match B6 tm ps.toList with
  |some qs=>Oi T X t n qs|none=>none)
 |.makeSlice t l c=>(match cB tm l,cB tm c with
  |some a,some b=>Ka T X t a b|_,_=>none)
 |.makeMap _ none=>some (.map X.nx,newU X (.map [] 0))|.mapUpdate t m k x=>(match cB tm m,cB tm k,cB tm x with
  |some a,some b,some v=>Mn T X t a b v|_,_,_=>none)
 |.insert t m k x=>(match cB tm m,cB tm k,cB tm x with
  |some a,some b,some v=>Mn T X t a b v|_,_,_=>none)
 |.mapEntry t m k=>(match cB tm m,cB tm k with
  |some a,some b=>ab T X t a b|_,_=>none)
 |.entryStore _ m st x=>(match cB tm m,cB tm st,cB tm x with
  |some a,some b,some v=>ct X a b v|_,_,_=>none)
 |.call c=>(match c.callee with
  |.builtin .append=>(match mJ tm c.args.toList,c.argTypes.toList with
   |some [a,b],[t,xt]=>xy T X t xt a b|_,_=>none)
  |.builtin .copy=>(match mJ tm c.args.toList,c.argTypes.toList with
   |some [a,b],t::_=>bj T X t a b|_,_=>none)
  |.builtin .delete=>(match mJ tm c.args.toList,c.argTypes.toList with
   |some [a,b],t::_=>Cv T X t a b|_,_=>none)
  |.builtin .clear=>(match mJ tm c.args.toList,c.argTypes.toList with
   |some [a],t::_=>ee T X t a|_,_=>none)
  |_=>none)
 |_=>none
def bO(T:Tb)(X:Sg)(tm:V U)(op:Op):M (U×Sg):=
 match j4 T X tm op with
 |some v=>some (v,X)|none=>match qG T X tm op with
  |some v=>some (v,X)|none=>oY T X tm op
def kN(T:Tb)(tm:V U)(op:Op):M (FuncId×V U):=
 match op with
 |.call c=>(match c.callee with
  |.value f=>(match cB tm f with
   |some (.fn (.func g) first cap)=>(match T.fn g with
    |some fn=>cond fn.body.isSome (match mJ tm c.args.toList with
     |some args=>some (g,first++args++cap)|none=>none) none
    |none=>none)
   |_=>none)
  |_=>none)
 |_=>none
end Go.Vx
namespace Go.Vx
open Go Go.Rx
mutual
def yV:(u:U)->(v:O)->toV u=some v->∀(x:Cx)(v':O),aD x u v'↔v'=v
 |.bool b,v,h,x,v'=>by simp[toV,zA]at h;subst h;simp[aD]
 |.int k n,v,h,x,v'=>by simp[toV,zA]at h;subst h;simp[aD]
 |.str l,v,h,x,v'=>by simp[toV,zA]at h;subst h;simp[aD]
 |.nilp,v,h,x,v'=>by simp[toV,zA]at h;subst h;simp[aD]
 |.nils,v,h,x,v'=>by simp[toV,zA]at h;subst h;simp[aD]
 |.nilm,v,h,x,v'=>by simp[toV,zA]at h;subst h;simp[aD]
 |.nilf,v,h,x,v'=>by simp[toV,zA]at h;subst h;simp[aD]
 |.nili,v,h,x,v'=>by simp[toV,zA]at h;subst h;simp[aD]
 |.agg l,v,h,x,v'=>by simp[toV]at h;rcases hk:okL l with _|_;simp[hk]at h;simp[hk,zC]at h;rcases hl:eG l with _|vs;simp[hl]at h;simp[hl,zA]at h;subst h;have:=DW l vs hl x;simp[aD,hk,and_true];constructor;rintro⟨ws,rfl,h1,h2⟩;rw[(this ws).1 ⟨h1,h2⟩];rintro rfl;exact⟨vs,rfl,((this vs).2 rfl).1,((this vs).2 rfl).2⟩
 |.junk,v,h,x,v'=>by simp[toV]at h
 |.ptr _ _ _,v,h,x,v'=>by simp[toV]at h
 |.iptr _,v,h,x,v'=>by simp[toV]at h
 |.sl _ _ _ _,v,h,x,v'=>by simp[toV]at h
 |.vl _ _ _ _,v,h,x,v'=>by simp[toV]at h
 |.isl _ _,v,h,x,v'=>by simp[toV]at h
 |.map _,v,h,x,v'=>by simp[toV]at h
 |.fn _ _ _,v,h,x,v'=>by simp[toV]at h
 |.tup _,v,h,x,v'=>by simp[toV]at h
def DW:(l:V U)->(vs:V O)->eG l=some vs->∀(x:Cx)(ws:V O),bB x l ws↔ws=vs
 |[],vs,h,x,ws=>by simp only[eG,zA]at h;subst h;exact⟨fun h=>h.nil_inv,fun h=>h ▸ bB.nil x⟩
 |u::l,vs,h,x,ws=>by simp[eG]at h;rcases hu:toV u with _|v;simp[hu]at h;rcases hl:eG l with _|rZ;simp[hu,hl]at h;simp[hu,hl,zA]at h;subst h;constructor;intro hr;obtain⟨w,ws',rfl,h1,h2⟩:=hr.inv;rw[(yV u v hu x w).1 h1,(DW l rZ hl x ws').1 h2];rintro rfl;exact bB.cons ((yV u v hu x v).2 rfl) ((DW l rZ hl x rZ).2 rfl)
end
mutual
def NT:(v:O)->(u:U)->iI v=some u->plain v=true/\∀x:Cx,aD x u v
 |.bool b,u,h=>by simp[iI,zA]at h;subst h;simp[aD,plain]
 |.int k n,u,h=>by simp[iI,zA]at h;subst h;simp[aD,plain]
 |.string s,u,h=>by simp[iI,zA]at h;subst h;simp[aD,plain]
 |.pointer none,u,h=>by simp[iI,zA]at h;subst h;simp[aD,plain]
 |.slice none n c,u,h=>by simp[iI]at h;split at h;simp[zA]at h;subst h;simp[aD,plain];cases h
 |.map none,u,h=>by simp[iI,zA]at h;subst h;simp[aD,plain]
 |.nilFunc,u,h=>by simp[iI,zA]at h;subst h;simp[aD,plain]
 |.nilIface,u,h=>by simp[iI,zA]at h;subst h;simp[aD,plain]
 |.agg ⟨l⟩,u,h=>by simp[iI]at h;rcases hl:qC l with _|us;simp[hl]at h;simp[hl]at h;rcases hk:okL us with _|_;simp[hk]at h;simp[hk,zC,zA]at h;subst h;have⟨h1,h2⟩:=O1 l us hl;exact⟨by simp[plain,h1],fun x=>by simp only[aD];exact⟨l,rfl,(h2 x).1,(h2 x).2,hk⟩⟩
 |.float _ _,u,h=>by simp[iI]at h
 |.complex _ _ _,u,h=>by simp[iI]at h
 |.pointer (some _),u,h=>by simp[iI]at h
 |.slice (some _) _ _,u,h=>by simp[iI]at h
 |.map (some _),u,h=>by simp[iI]at h
 |.chan _,u,h=>by simp[iI]at h
 |.func _ _ _,u,h=>by simp[iI]at h
 |.iface _ _,u,h=>by simp[iI]at h
 |.tuple _,u,h=>by simp[iI]at h
def O1:(l:V O)->(us:V U)->qC l=some us->RJ l=true/\∀x:Cx,bB x us l
 |[],us,h=>by simp[qC,zA]at h;subst h;exact⟨by simp[RJ],fun x=>bB.nil x⟩
 |v::l,us,h=>by simp[qC]at h;rcases hv:iI v with _|u;simp[hv]at h;rcases hl:qC l with _|Em;simp[hv,hl]at h;simp[hv,hl,zA]at h;subst h;have⟨h1,h2⟩:=NT v u hv;have⟨h3,h4⟩:=O1 l Em hl;exact⟨by simp[RJ,h1,h3],fun x=>bB.cons (h2 x) (h4 x)⟩
end
section
variable{x:Cx}{tm:V U}{tv:V O}(ht:bB x tm tv)
include ht
def j6{o:EW}{u:U}(h:cB tm o=some u):∃v,evalO tv o=some v/\aD x u v:=by
 cases o with
 |tmp t=>simp[cB,jD]at h;have⟨v,h1,h2⟩:=ht.get h;exact⟨v,by simp[evalO,jD,h1],h2⟩
 |const v=>have⟨h1,h2⟩:=NT v u h;exact⟨v,by simp[evalO,h1],h2 x⟩
 |func f=>simp[cB,zA]at h;subst h;exact⟨_,rfl,by simp only[aD];exact⟨[],[],rfl,by simp[cO],rfl,by simp[cO],rfl⟩⟩|global g=>simp[cB]at h
def ML{l:V EW}{us:V U}(h:mJ tm l=some us):∃vs,kW tv l=some vs/\bB x us vs:=by induction l generalizing us with|nil=>simp[mJ,zA]at h;subst h;exact⟨[],rfl,bB.nil x⟩|cons o l ih=>simp[mJ]at h;rcases h1:cB tm o with _|u;simp[h1]at h;rcases h2:mJ tm l with _|Em;simp[h1,h2]at h;simp[h1,h2,zA]at h;subst h;have⟨v,e1,r1⟩:=j6 ht h1;have⟨vs,e2,r2⟩:=ih h2;exact⟨v::vs,by simp[kW,e1,e2],bB.cons r1 r2⟩
inductive XB(x:Cx):List (Nat×U)->List (Nat×Value)->Prop
 |nil:XB x [] []
 |cons {i:Nat} {u:U} {v:Value} {l:List (Nat×U)} {m:List (Nat×Value)}:aD x u v->XB x l m->XB x ((i,u)::l) ((i,v)::m)
def ij{l:V (Nat×EW)}{us:V (Nat×U)}(h:B6 tm l=some us):∃vs,IY tv l=some vs/\XB x us vs:=by induction l generalizing us with|nil=>simp[B6,zA]at h;subst h;exact⟨[],rfl,.nil⟩|cons o l ih=>have⟨i,o⟩:=o;simp[B6]at h;rcases h1:cB tm o with _|u;simp[h1]at h;rcases h2:B6 tm l with _|Em;simp[h1,h2]at h;simp[h1,h2,zA]at h;subst h;have⟨v,e1,r1⟩:=j6 ht h1;have⟨vs,e2,r2⟩:=ih h2;exact⟨(i,v)::vs,by simp[IY,e1,e2],.cons r1 r2⟩
def ik{o:M EW}{r:M O}(h:xX tm o=some r):sD tv o=some r:=by rcases o with _|o;simpa[xX,sD]using h;simp[xX]at h;rcases h1:cB tm o with _|u;simp[h1]at h;have⟨v,e1,r1⟩:=j6 ht h1;cases u with|int k n=>simp[h1,zA]at h;simp[aD]at r1;subst r1;subst h;simp[sD,e1]|_=>simp[h1]at h
end
variable{x:Cx}
variable{u:U}
variable{v:O}
def U8{f:O->M O}{r:U}(h:g1 f u=some r)(hr:aD x u v):∃rv,f v=some rv/\aD x r rv:=by unfold g1 at h;rcases h1:toV u with _|v0;simp[h1]at h;simp[h1]at h;rcases h2:f v0 with _|rv;simp[h2]at h;simp[h2]at h;rw[(yV u v0 h1 x v).1 hr];exact⟨rv,h2,(NT rv r h).2 x⟩
def U7{f:O->O->M O}{a b r:U}{va vb:O}(h:g2 f a b=some r)(ha:aD x a va)(hb:aD x b vb):∃rv,f va vb=some rv/\aD x r rv:=by unfold g2 at h;rcases h1:toV a with _|v1;simp[h1]at h;rcases h2:toV b with _|v2;simp[h1,h2]at h;simp[h1,h2]at h;rcases h3:f v1 v2 with _|rv;simp[h3]at h;simp[h3]at h;rw[(yV a v1 h1 x va).1 ha,(yV b v2 h2 x vb).1 hb];exact⟨rv,h3,(NT rv r h).2 x⟩
def qwn(hr:aD x u v)(hn:okC u=true):v.oneCell'=true:=by
 cases u with
 |junk=>simp[okC]at hn|agg l=>simp[okC]at hn
 |tup l=>simp[okC]at hn|ptr k st off=>simp[aD]at hr;exact hr.1
 |sl k off n c=>simp[aD]at hr;exact hr.1|vl k st off n=>simp[aD]at hr;exact hr.1
 |map k=>simp only[aD]at hr;exact hr.1|iptr l=>simp only[aD]at hr;obtain⟨_,_,_,_,rfl,_⟩:=hr;rfl
 |isl t l=>simp[aD]at hr;rcases hr with⟨_,rfl |⟨_,rfl⟩⟩|⟨_,_,_,rfl,_⟩<;>rfl
 |fn f a b=>simp[aD]at hr;obtain⟨_,_,rfl,_⟩:=hr;rfl
 |_=>simp[aD]at hr;subst hr;rfl
variable{l:V U}
variable{vs:V O}
def RZ(hr:bB x l vs)(hk:okL l=true):tI vs=true:=by induction l generalizing vs with|nil=>rw[hr.nil_inv];rfl|cons u l ih=>obtain⟨v,rZ,rfl,h1,h2⟩:=hr.inv;simp only[okL]at hk;have⟨k1,k2⟩:=MN hk;simp[tI,qwn h1 k1,ih h2 k2]
def im{cs:V U}(hr:aD x u v)(h:xY u=some cs):bB x cs v.cells.toList/\okL cs=true:=by
 have one:okC u=true->cs=[u]->bB x cs v.cells.toList/\okL cs=true:=fun h1 h2=>by
  subst h2;have:=qwn hr h1;have e:v.cells= #[v]:=by cases v<;>first |rfl |(simp[Value.oneCell']at this)
  rw[e];exact⟨bB.cons hr (bB.nil x),by simp[okL,h1]⟩
 cases u with
 |junk=>simp[xY]at h|tup l=>simp[xY]at h
 |agg l=>simp[xY,zA]at h;subst h;simp[aD]at hr;obtain⟨vs,rfl,h1,h2,h3⟩:=hr;exact⟨⟨h1,h2⟩,h3⟩
 |_=>simp[xY,zA]at h;exact one rfl h.symm
def zef(h:aD x u v):aD x (Kn u) v:=by
 cases u with
 |nils=>simp only[Kn,aD]at*;exact .inl ⟨trivial,.inl h⟩|isl t l=>simp only[Kn,aD]at*;rcases h with h |⟨i,off,c,h1,h2,h3⟩;exact .inl h;exact .inr ⟨i,off,c,h1,(fun h=>by cases h),h3⟩
 |_=>exact h
def VS(u:U):okC (Kn u)=okC u:=by cases u<;>rfl
def wc:∀l:V U,(rY l).length=l.length
 |[]=>rfl|u::l=>by simp[rY,wc l]
def Ew:∀l:V U,okL (rY l)=okL l
 |[]=>rfl|u::l=>by simp[rY,okL,VS,Ew l]
def z1z{x:Cx}:∀{l:V U}{vs:V O},cO x l vs->cO x (rY l) vs
 |[],vs,h=>by simp[rY,cO]
 |u::l,[],h=>by simp[cO]at h
 |u::l,v::vs,h=>by simp[rY,cO]at*;exact⟨zef h.1,z1z h.2⟩
def Mz(h:bB x l vs):bB x (rY l) vs:=⟨z1z h.1,by rw[wc];exact h.2⟩
def zee{X:Sg}{k:Nat}(h:bB x l vs):bB x (GS X k l) vs:=by unfold GS;split;exact Mz h;exact h
def VT(X:Sg)(k:Nat)(l:V U):okL (GS X k l)=okL l:=by unfold GS;split;exact Ew l;rfl
structure Out(x y:Cx):Prop where
 h:jY y
 mo:Mo x.X.nx x y
 fr:∀F,Fr F x->Fr F y
def nc:GY:=fun _ _ _=>none
def rQ(T:Tb)(x:Cx)(tv:V O)(op:Op)(u:U)(X':Sg):Prop:=∃v y,BA T nc tv x.s op=some (v,y.s)/\y.X=X'/\aD y u v/\Out x y
def Mo.refl(n:Nat)(x:Cx):Mo n x x:=⟨fun k _ h2=>⟨h2,fun b hb=>⟨b,hb,zF _,fun _=>⟨rfl,fun l e sz st h=>⟨l,h⟩⟩⟩⟩,fun _ _ _ h=>h⟩
def Out.refl{x:Cx}(h:jY x):Out x x:=⟨h,Mo.refl _ _,fun _ h=>h⟩
variable{T:Tb}
variable{tv:V O}
variable{op:Op}
def rQ.same(hx:jY x)(h:BA T nc tv x.s op=some (v,x.s))(hr:aD x u v):rQ T x tv op u x.X:=⟨v,x,h,rfl,hr,Out.refl hx⟩
variable{call:GY}
variable{s:S}
def za6(h:j0 T tv op=some v):BA T call tv s op=some (v,s):=by simp[BA,h]
def Ns(h0:j0 T tv op=none)(h:o4 T tv s op=some v):BA T call tv s op=some (v,s):=by simp[BA,h,h0]
def z0r{r:O×S}(h0:j0 T tv op=none)(h1:o4 T tv s op=none)(h:uD T tv s op=some r):BA T call tv s op=some r:=by simp[BA,h,h0,h1]
def bump(x:Cx):Cx:=⟨x.Y,x.X,⟨x.s.h,x.s.nx+1⟩⟩
def ag(n:Nat)(x:Cx):Mo n x (bump x):=⟨fun k _ h2=>⟨h2,fun b hb=>⟨b,hb,zF _,fun _=>⟨rfl,fun l e sz st h=>⟨l,h⟩⟩⟩⟩,fun _ _ _ h=>h⟩
def fb(h:aD x u v):aD (bump x) u v:=(ag x.X.nx x).ke u v (aD.bel u v h) h
def VD(h:bB x l vs):bB (bump x) l vs:=(ag x.X.nx x).ke.E h.bel h
def z91(h:jY x):Out x (bump x):=by
 refine⟨⟨fun k b hb=>?_,h.inj,fun i b hb=>Nat.lt_succ_of_lt (h.bd i b hb)⟩,ag _ _,fun F J=>J⟩;have⟨h1,h2⟩:=h.ok k b hb;refine⟨h1,?_⟩;cases b with
 |row l e=>have⟨k1,i,l',e1,e2,e3⟩:=h2;exact⟨k1,i,l',e1,e2,VD e3⟩
 |vec l e sz st=>have⟨k1,k2,h3⟩:=h2;refine⟨k1,k2,?_⟩;rcases h3 with h3 |⟨i,l',e1,e2,e3⟩;exact .inl h3;exact .inr ⟨i,l',e1,e2,VD e3⟩
 |map es cl=>have⟨i,es',e1,e2,e3⟩:=h2;refine⟨i,es',e1,e2,e3.1,fun j e he=>?_⟩;have⟨v,q1,q2,q3,q4⟩:=e3.2 j e he;exact⟨v,q1,fb q2,fb q3,q4⟩
end Go.Vx
namespace Go.Vx
open Go Go.Rx
variable{l:V O}
variable{n:Nat}
def zat(h:n<=l.length):IV l n=some (l.take n):=by
 induction l generalizing n with
 |nil=>simp at h;subst h;simp[IV]|cons a l ih=>cases n with
  |zero=>simp[IV]|succ n=>simp[IV,ih (by simpa using h)]
variable{off:Nat}
def Mi(h:off+n<=l.length):xS l off n=some ((l.drop off).take n):=zat (by simp;omega)
variable{vs:V O}
def zdq(h:vs.length<=l.length):GJ l vs=some (vs++l.drop vs.length):=by
 induction vs generalizing l with
 |nil=>simp[GJ]|cons v vs ih=>cases l with
  |nil=>simp at h|cons a l=>simp[GJ,ih (by simpa using h)]
def zdr(h:off+vs.length<=l.length):uC l off vs=some (l.take off++(vs++l.drop (off+vs.length))):=by
 induction l generalizing off with
 |nil=>simp at h;obtain⟨rfl,rfl⟩:=h;simp[uC,GJ]
 |cons a l ih=>cases off with
  |zero=>simp only[uC,Nat.zero_add]at*;rw[zdq h];simp|succ off=>simp[uC,ih (off:=off) (by simp at h;omega),Nat.succ_add]
variable{l:V U}
def O5(h:okL l=true)(n:Nat):okL (l.take n)=true:=(M9 _).2 fun u hu=>(M9 l).1 h u (List.mem_of_mem_take hu)
def HB(h:okL l=true)(n:Nat):okL (l.drop n)=true:=(M9 _).2 fun u hu=>(M9 l).1 h u (List.mem_of_mem_drop hu)
def JB{a b:V U}(h:okL a=true)(h':okL b=true):okL (a++b)=true:=(M9 _).2 fun u hu=>(yD.1 hu).elim ((M9 a).1 h u) ((M9 b).1 h' u)
variable{r:V U}
def RY(h:lD l off n=some r):off+n<=l.length/\r=(l.drop off).take n:=by unfold lD at h;split at h;simp at h;exact⟨by assumption,h.symm⟩;cases h
def qws{vs:V U}(h:qB l off vs=some r):off+vs.length<=l.length/\r=l.take off++(vs++l.drop (off+vs.length)):=by unfold qB at h;split at h;simp at h;exact⟨by assumption,h.symm⟩;cases h
variable{x:Cx}
def wl{vs:V U}{lv vv:V O}(h:qB l off vs=some r)(hl:bB x l lv)(hv:bB x vs vv):∃rv,uC lv off vv=some rv/\bB x r rv/\(okL l=true->okL vs=true->okL r=true):=by obtain⟨h1,rfl⟩:=qws h;refine⟨_,zdr (by rw[<-hl.2,<-hv.2];exact h1),?_,fun a b=>JB (O5 a _) (JB b (HB a _))⟩;rw[<-hv.2];exact(hl.take _).append (hv.append (hl.drop _))
def z7j{lv:V O}(h:lD l off n=some r)(hl:bB x l lv):xS lv off n=some ((lv.drop off).take n)/\bB x r ((lv.drop off).take n):=by obtain⟨h1,rfl⟩:=RY h;exact⟨Mi (by rw[<-hl.2];exact h1),(hl.drop _).take _⟩
def Nz{x:Cx}{place:Nat->M (Nat×Nat)}:∀{ps:V (Nat×U)}{pv:V (Nat×O)}{cells r:V U}{cv:V O},XB x ps pv->bB x cells cv->uX place cells ps=some r->∃rv,F4 place cv pv=some rv/\bB x r rv
 |_,_,cells,r,cv,.nil,hc,h=>by simp[uX,zA]at h;subst h;exact⟨cv,rfl,hc⟩
 |_,_,cells,r,cv,.cons (i:=i) (u:=u) (v:=v) (l:=l) (m:=m) hu hp,hc,h=>by simp[uX]at h;rcases h1:place i with _|q;simp[h1]at h;have⟨off,size⟩:=q;simp[h1]at h;rcases h2:xY u with _|cs;simp[h2]at h;simp[h2]at h;have⟨c1,c2⟩:=im hu h2;rcases h3:Nat.beq cs.length size with _|_;simp[h3]at h;simp[h3,zC]at h;rcases h4:qB cells off cs with _|c;simp[h4]at h;simp[h4]at h;have⟨rv,q1,q2,_⟩:=wl h4 hc c1;have⟨rv',q3,q4⟩:=Nz hp q2 h;exact⟨rv',by simp only[F4,h1];rw[<-c1.2,h3];simp[zC,q1,q3],q4⟩
variable{T:Tb}
variable{t:TypeId}
variable{u:U}
def z0x{cs:V U}(h:qi T t cs off=some u)(hc:bB x cs vs)(hk:okL cs=true):∃v,GW T t vs off=some v/\aD x u v:=by
 unfold qi at h;unfold GW;rcases hd:T.und t with _|d;simp[hd]at h;simp[hd]at h ⊢;cases ha:sF d with
 |true=>simp only[ha,zC]at h ⊢;rcases hs:cT T t with _|n;simp[hs]at h;simp only[hs,zA]at h ⊢;subst h;refine⟨_,rfl,?_⟩;simp only[aD];exact⟨_,rfl,((hc.drop off).take n).1,((hc.drop off).take n).2,O5 (HB hk _) _⟩
 |false=>simp[ha,zD,jD]at h ⊢;exact hc.get h
def z4b{ps:V (Nat×U)}{pv:V (Nat×O)}(h:Fh T t ps=some u)(hp:XB x ps pv):∃v,Mv T t pv=some v/\aD x u v:=by
 unfold Fh at h;unfold Mv;rcases hi:T.inf t with _|q;simp[hi]at h;have⟨a,b,z⟩:=q;simp[hi]at h ⊢;rcases hz:qC z.cells.toList with _|zu;simp[hz]at h;simp[hz]at h;have uI:=(O1 _ _ hz).2 x;rcases hd:T.und t with _|d;simp[hd]at h;cases d with
 |struct fs=>simp[hd]at h ⊢;rcases hs:J1 T fs.toList with _|_;simp[hs]at h;simp[hs,zC]at h ⊢;rcases hf:uX (MB T fs.toList) zu ps with _|cs;simp[hf]at h;simp[hf]at h;rcases hk:okL cs with _|_;simp[hk]at h;simp[hk,zC,zA]at h;subst h;have⟨rv,q1,q2⟩:=Nz hp uI hf;exact⟨.agg rv.toArray,by simp[q1],by simp only[aD];exact⟨rv,rfl,q2.1,q2.2,hk⟩⟩
 |array n e=>simp[hd]at h ⊢;rcases hs:cT T e with _|sz;simp[hs]at h;simp[hs]at h ⊢;rcases hf:uX (fun i=>some (i*sz,sz)) zu ps with _|cs;simp[hf]at h;simp[hf]at h;rcases hk:okL cs with _|_;simp[hk]at h;simp[hk,zC,zA]at h;subst h;have⟨rv,q1,q2⟩:=Nz hp uI hf;exact⟨.agg rv.toArray,by simp[q1],by simp only[aD];exact⟨rv,rfl,q2.1,q2.2,hk⟩⟩
 |_=>simp[hd]at h
variable{X:Sg}
variable{k:Nat}
def Oj{st:Nat}(h:cM X k st=true):∃b,gt X.h k=some b/\b.st=st:=by unfold cM at h;rcases hb:gt X.h k with _|b;simp[hb]at h;simp[hb,beq_eq,decide_eq_true_eq]at h;exact⟨b,rfl,h⟩
variable{v:O}
def Y0{st:Nat}(hl:cM x.X k st=true)(hr:aD x (.ptr k st off) v):∃i,x.Y k=some i/\v=.pointer (some ⟨i,off,none⟩):=by have⟨b,h1,h2⟩:=Oj hl;simp[aD]at hr;exact((hr.2.2 b h1).2 h2.symm)
def O3{c:Nat}(hl:cM x.X k 0=true)(hr:aD x (.sl k off n c) v):∃i,x.Y k=some i/\v=.slice (some ⟨i,off,none⟩) n c/\c<bY/\n<=c:=by have⟨b,h1,h2⟩:=Oj hl;simp[aD]at hr;exact((hr.2.2 b h1).2 h2.symm)
def xn(hl:cM x.X k 0=true)(hr:aD x (.map k) v):∃i,x.Y k=some i/\v=.map (some i):=by have⟨b,h1,h2⟩:=Oj hl;simp[aD]at hr;exact((hr.2.2 b h1).2 h2.symm)
def XV{st:Nat}(hl:cM x.X k st=true)(hr:aD x (.vl k st off n) v):∃l e sz,gt x.X.h k=some (.vec l e sz st)/\I5 off n v sz (x.Y k):=by have⟨b,h1,h2⟩:=Oj hl;simp[aD]at hr;obtain⟨l,e,sz,rfl,h3⟩:=(hr.2.2 b h1).2 h2.symm;exact⟨l,e,sz,h1,h3⟩
def jr{st:Nat}{r:V U×TypeId×Nat}(h:B0 X k st=some r):gt X.h k=some (.vec r.1 r.2.1 r.2.2 st)/\cM X k st=true:=by
 unfold B0 at h;rcases hb:gt X.h k with _|b;simp[hb]at h;cases b with
 |vec l e sz cD=>simp[hb,beq_eq]at h;by_cases cK:cD=st;subst cK;simp at h;subst h;exact⟨rfl,by simp[cM,hb,B.st]⟩;simp[cK]at h|_=>simp[hb]at h
def ir(h:rowOf X k=some l):∃e,gt X.h k=some (.row l e)/\cM X k 0=true:=by
 unfold rowOf at h;rcases hb:gt X.h k with _|b;simp[hb]at h;cases b with
 |row l' e=>simp[hb]at h;subst h;exact⟨e,rfl,by simp[cM,hb,B.st]⟩|_=>simp[hb]at h
def bm{sz:Nat}{o:M Nat}(h:I5 off n v sz o):∃a c,v=.slice a n c:=by
 cases o with
 |none=>obtain⟨_,rfl,o,rfl,_⟩:=h;exact⟨o,0,rfl⟩
 |some i=>rcases h with⟨_,rfl,a,c,rfl,_⟩|rfl<;>exact⟨_,_,rfl⟩
def ap(hx:jY x){st:Nat}(hl:cM x.X k st=true)(hr:aD x (.vl k st off n) v)(hn:0<n):
  ∃i l e sz l',gt x.X.h k=some (.vec l e sz st)/\x.Y k=some i/\v=.slice (some ⟨i,off*sz,none⟩) n (bY+off)/\lk x.s.h i=some (.inl (l',e,sz+2))/\bB x l l'/\0<sz/\okL l=true:=by have⟨l,e,sz,h1,h2⟩:=XV hl hr;have⟨_,k1,k2,h3⟩:=hx.ok k _ h1;rcases h3 with⟨_,h3⟩|⟨i,l',e1,e2,e3⟩;rw[h3]at h2;obtain⟨_,rfl,_⟩:=h2;omega;rw[e1]at h2;rcases h2 with⟨_,rfl,_⟩|h2;omega;exact⟨i,l,e,sz,l',h1,e1,h2,e2,e3,k2,k1⟩
def z1r(hx:jY x)(hr:aD x u v)(h:iG x.X u=k)(hk:k≠0):
  (k=1/\∃a,v=.pointer (some a))\/(k=2/\∃a n c,v=.slice (some a) n c)\/(k=3/\∃r,v=.map (some r)):=by
 cases u with
 |ptr k' st off=>simp[iG]at h;rcases hl:cM x.X k' st with _|_;simp[hl]at h;omega;simp[hl]at h;obtain⟨i,_,rfl⟩:=Y0 hl hr;exact .inl ⟨h.symm,_,rfl⟩
 |iptr l=>simp only[iG]at h;simp only[aD]at hr;obtain⟨i,off,_,_,rfl,_⟩:=hr;exact .inl ⟨h.symm,_,rfl⟩
 |sl k' off n c=>simp[iG]at h;rcases hl:cM x.X k' 0 with _|_;simp[hl]at h;omega;simp[hl]at h;obtain⟨i,_,rfl,_⟩:=O3 hl hr;exact .inr (.inl ⟨h.symm,_,_,_,rfl⟩)
 |vl k' st off n=>cases n with|zero=>simp[iG]at h;omega|succ n=>simp[iG]at h;rcases hl:cM x.X k' st with _|_;simp[hl]at h;omega;simp[hl]at h;obtain⟨i,l,e,sz,l',_,_,rfl,_⟩:=ap hx hl hr (Nat.succ_pos _);exact .inr (.inl ⟨h.symm,_,_,_,rfl⟩)
 |isl t l=>rcases l with _|⟨c,l⟩;simp[iG]at h;omega;simp[iG]at h;simp only[aD]at hr;rcases hr with⟨hr,_⟩|⟨i,off,c',rfl,_⟩;cases hr;exact .inr (.inl ⟨h.symm,_,_,_,rfl⟩)
 |map k'=>simp[iG]at h;rcases hl:cM x.X k' 0 with _|_;simp[hl]at h;omega;simp[hl]at h;obtain⟨i,_,rfl⟩:=xn hl hr;exact .inr (.inr ⟨h.symm,_,rfl⟩)
 |_=>simp[iG]at h;omega
def qss(hr:aD x u v)(h:MA u=k)(hk:k≠0):(k=1/\v=.pointer none)\/(k=2/\v=.slice none 0 0)\/(k=3/\v=.map none):=by
 cases u with
 |nilp=>simp[MA]at h;simp[aD]at hr;exact .inl ⟨h.symm,hr⟩|nils=>simp[MA]at h;simp[aD]at hr;exact .inr (.inl ⟨h.symm,hr⟩)
 |nilm=>simp[MA]at h;simp[aD]at hr;exact .inr (.inr ⟨h.symm,hr⟩)|_=>simp[MA]at h;omega
def z6h(hx:jY x){op:BinOp}{a b:U}{va vb:O}(h:Fb T x.X op t a b=some u)(ha:aD x a va)(hb:aD x b vb):∃v,rD T op t va vb=some v/\aD x u v:=by
 unfold Fb at h;simp[beq_eq]at h;by_cases h0:B3 T t=0;simp[h0]at h;simp[h0,yB,zD]at h;have key:GD op=some u->
   (B3 T t=1/\((∃p,va=.pointer (some p))/\vb=.pointer none\/va=.pointer none/\∃p,vb=.pointer (some p)))\/
   (B3 T t=2/\((∃p n c,va=.slice (some p) n c)/\vb=.slice none 0 0\/va=.slice none 0 0/\∃p n c,vb=.slice (some p) n c))\/
   (B3 T t=3/\((∃p,va=.map (some p))/\vb=.map none\/va=.map none/\∃p,vb=.map (some p)))->∃v,rD T op t va vb=some v/\aD x u v:=by
  intro rL hk;have zR:∀{k:Nat},B3 T t=k->k≠0->(k=1->∃e,T.und t=some (.pointer e))/\(k=2->∃e,T.und t=some (.slice e))/\(k=3->∃e e',T.und t=some (.map e e')):=by intro k hk vE;unfold B3 at hk;rcases hd:T.und t with _|d;simp[hd]at hk;omega;cases d<;>simp[hd]at hk<;>subst hk<;>simp at vE ⊢
  rcases hk with⟨hk,hv⟩|⟨hk,hv⟩|⟨hk,hv⟩;have⟨e,he⟩:=(zR hk (by omega)).1 rfl;rcases hv with⟨⟨p,rfl⟩,rfl⟩|⟨rfl,p,rfl⟩<;>cases op<;>simp[GD]at rL<;>subst rL<;>simp[rD,wY,eqv,he,aD];have⟨e,he⟩:=(zR hk (by omega)).2.1 rfl;rcases hv with⟨⟨p,n,c,rfl⟩,rfl⟩|⟨rfl,p,n,c,rfl⟩<;>cases op<;>simp[GD]at rL<;>subst rL<;>simp[rD,wY,eqv,he,aD];have⟨e,e',he⟩:=(zR hk (by omega)).2.2 rfl;rcases hv with⟨⟨p,rfl⟩,rfl⟩|⟨rfl,p,rfl⟩<;>cases op<;>simp[GD]at rL<;>subst rL<;>simp[rD,wY,eqv,he,aD]
 by_cases h1:iG x.X a=B3 T t;by_cases h2:MA b=B3 T t;simp[h1,h2,yC,zC]at h;apply key h;rcases z1r hx ha h1 h0 with⟨e1,q⟩|⟨e1,q⟩|⟨e1,q⟩<;>rcases qss hb h2 h0 with⟨e2,q'⟩|⟨e2,q'⟩|⟨e2,q'⟩<;>first |omega |skip
 exact .inl ⟨e1,.inl ⟨q,q'⟩⟩;exact .inr (.inl ⟨e1,.inl ⟨q,q'⟩⟩);exact .inr (.inr ⟨e1,.inl ⟨q,q'⟩⟩);simp[h1,h2]at h;simp[h1,yB,zD]at h;by_cases h2:MA a=B3 T t;by_cases h3:iG x.X b=B3 T t;simp[h2,h3,yC,zC]at h;apply key h;rcases z1r hx hb h3 h0 with⟨e1,q⟩|⟨e1,q⟩|⟨e1,q⟩<;>rcases qss ha h2 h0 with⟨e2,q'⟩|⟨e2,q'⟩|⟨e2,q'⟩<;>first |omega |skip
 exact .inl ⟨e1,.inr ⟨q',q⟩⟩;exact .inr (.inl ⟨e1,.inr ⟨q',q⟩⟩);exact .inr (.inr ⟨e1,.inr ⟨q',q⟩⟩);simp[h2,h3]at h;simp[h2]at h
def zcj(hx:jY x){op:BinOp}{a b:U}{va vb:O}(h:LC T x.X op t a b=some u)(ha:aD x a va)(hb:aD x b vb):∃v,rD T op t va vb=some v/\aD x u v:=by unfold LC at h;rcases h1:g2 (rD T op t) a b with _|r;simp[h1]at h;exact z6h hx h ha hb;simp[h1,zA]at h;subst h;exact U7 h1 ha hb
variable{v:O}
variable{n:Nat}
def FJ{y y':Nat}(h:jS v y=some n)(hy:y<=y'):jS v y'=some n/\n<=y:=by
 unfold jS at*;cases v with
 |int k i=>
  simp only at*;rcases h1:sK i (y+1)with _|_;simp[h1]at h;simp[h1,zC,zA]at h;have⟨a,b⟩:=Y1 h1;have:sK i (y'+1)=true:=by
   unfold sK;cases i with
   |ofNat k=>simp at b ⊢;omega|negSucc k=>omega
  exact⟨by simp[this,h],by omega⟩
 |_=>simp at h
variable{c:Nat}
variable{lo:M O}
variable{hi:M O}
variable{l:Nat}
variable{h:Nat}
variable{m:Nat}
def RW(hb:i8 n n lo hi none=some (l,h,m))(hc:n<=c):i8 n c lo hi none=some (l,h,c)/\l<=h/\h<=n/\m=n:=by
 unfold i8 at*;simp only at*;cases hi with
 |none=>
  simp only at*;cases lo with
  |none=>simp[zA,zB]at hb ⊢;have⟨rfl,rfl,rfl⟩:=hb;simp
  |some v=>simp only at*;rcases h1:jS v n with _|k;simp[h1]at hb;simp[h1,zA,zB]at hb ⊢;have⟨rfl,rfl,rfl⟩:=hb;simp[(FJ h1 (zF _)).2]
 |some w=>
  simp only at*;rcases h2:jS w n with _|k2;simp[h2]at hb;have⟨e2,e3⟩:=FJ h2 hc;simp[h2,e2]at hb ⊢;cases lo with
  |none=>simp[zA,zB]at hb ⊢;have⟨rfl,rfl,rfl⟩:=hb;simp[e3]
  |some v=>simp only at*;rcases h1:jS v k2 with _|k;simp[h1]at hb;simp[h1,zA,zB]at hb ⊢;have⟨rfl,rfl,rfl⟩:=hb;simp[(FJ h1 (zF _)).2,e3]
def Od{vm:O}(hb:i8 n n lo hi (some vm)=some (l,h,m)):jS vm n=some m/\l<=h/\h<=m/\m<=n/\∀c,m<=c->i8 n c lo hi (some vm)=some (l,h,m):=by
 unfold i8 at*;simp only at*;rcases h0:jS vm n with _|k0;simp[h0]at hb;simp[h0]at hb;have e0:=(FJ h0 (zF _)).2;have grow:∀c,k0<=c->jS vm c=some k0:=fun c hc=>by
  unfold jS at*;cases vm with
  |int k i=>
   simp only at*;rcases h1:sK i (n+1)with _|_;simp[h1]at h0;simp[h1,zC,zA]at h0;have⟨a,b⟩:=Y1 h1;have:sK i (c+1)=true:=by
    unfold sK;cases i with
    |ofNat k=>simp at h0 ⊢;omega|negSucc k=>omega
   simp[this,h0]
  |_=>simp at h0
 rcases hi with _|w;simp at hb;simp only at*;rcases h2:jS w k0 with _|k2;simp[h2]at hb;have e3:=(FJ h2 (zF _)).2;simp[h2]at hb;cases lo with
 |none=>simp[zA,zB]at hb;have⟨rfl,rfl,rfl⟩:=hb;exact⟨rfl,by omega,e3,e0,fun c hc=>by simp[grow c hc,h2]⟩
 |some v=>simp only at*;rcases h1:jS v k2 with _|k;simp[h1]at hb;simp[h1,zA,zB]at hb;have⟨rfl,rfl,rfl⟩:=hb;exact⟨rfl,(FJ h1 (zF _)).2,e3,e0,fun c hc=>by simp[grow c hc,h2,h1]⟩
variable{mx:M O}
def z8y(hb:i8 n c lo hi mx=some (l,h,m)):l<=h/\m<=c:=by
 unfold i8 at hb;cases mx with
 |none=>
  simp only at hb;cases hi with
  |none=>simp only at hb;rcases lo with _|v;simp[zA,zB]at hb;omega;simp only at hb;rcases h1:jS v n with _|k;simp[h1]at hb;simp[h1,zA,zB]at hb;have:=(FJ h1 (zF _)).2;omega
  |some w=>simp only at hb;rcases h2:jS w c with _|k2;simp[h2]at hb;simp[h2]at hb;rcases lo with _|v;simp[zA,zB]at hb;omega;simp only at hb;rcases h1:jS v k2 with _|k;simp[h1]at hb;simp[h1,zA,zB]at hb;have:=(FJ h1 (zF _)).2;omega
 |some vm=>simp only at hb;rcases h0:jS vm c with _|k0;simp[h0]at hb;have e0:=(FJ h0 (zF _)).2;simp[h0]at hb;rcases hi with _|w;simp at hb;simp only at hb;rcases h2:jS w k0 with _|k2;simp[h2]at hb;simp[h2]at hb;rcases lo with _|v;simp[zA,zB]at hb;omega;simp only at hb;rcases h1:jS v k2 with _|k;simp[h1]at hb;simp[h1,zA,zB]at hb;have:=(FJ h1 (zF _)).2;omega
def z8z(hb:i8 n c lo hi mx=some (l,h,m))(hn:n<=c):h<=m:=by
 unfold i8 at hb;cases mx with
 |none=>
  simp only at hb;cases hi with
  |none=>simp only at hb;rcases lo with _|v;simp[zA,zB]at hb;omega;simp only at hb;rcases h1:jS v n with _|k;simp[h1]at hb;simp[h1,zA,zB]at hb;omega
  |some w=>simp only at hb;rcases h2:jS w c with _|k2;simp[h2]at hb;have:=(FJ h2 (zF _)).2;simp[h2]at hb;rcases lo with _|v;simp[zA,zB]at hb;omega;simp only at hb;rcases h1:jS v k2 with _|k;simp[h1]at hb;simp[h1,zA,zB]at hb;omega
 |some vm=>simp only at hb;rcases h0:jS vm c with _|k0;simp[h0]at hb;simp[h0]at hb;rcases hi with _|w;simp at hb;simp only at hb;rcases h2:jS w k0 with _|k2;simp[h2]at hb;have:=(FJ h2 (zF _)).2;simp[h2]at hb;rcases lo with _|v;simp[zA,zB]at hb;omega;simp only at hb;rcases h1:jS v k2 with _|k;simp[h1]at hb;simp[h1,zA,zB]at hb;omega
def xi{x:Cx}{sz:Nat}:∀{l:V (V U)}{vs:V O},iX x sz l vs->∀(i:Nat)(c:V U),l[i]? = some c->c.length=sz/\okL c=true/\cO x c (vs.drop (i*sz))
 |[],vs,h,i,c,hc=>by simp at hc
 |d::l,vs,h,i,c,hc=>by
  simp[iX]at h;cases i with
  |zero=>simp at hc;subst hc;exact⟨h.1,h.2.1,by simpa using h.2.2.1⟩|succ i=>simp at hc;have:=xi h.2.2.2 i c hc;rw[List.drop_drop]at this;rw[Nat.succ_mul,Nat.add_comm];exact this
def z78{x:Cx}{sz:Nat}:∀{l:V (V U)}{vs:V O},(∀(i:Nat)(c:V U),l[i]? = some c->c.length=sz/\okL c=true/\cO x c (vs.drop (i*sz)))->iX x sz l vs
 |[],vs,h=>by simp[iX]
 |d::l,vs,h=>by simp[iX];have h0:=h 0 d rfl;refine⟨h0.1,h0.2.1,by simpa using h0.2.2,z78 fun i c hc=>?_⟩;have:=h (i+1) c (by simpa using hc);rw[List.drop_drop];rw[Nat.succ_mul,Nat.add_comm]at this;exact this
def z99{v11:Type}(l:V v11)(a h i:Nat):(qE l a h)[i]? = if a+i<h then l[a+i]? else none:=by unfold qE;rw[List.getElem?_drop,List.getElem?_take]
variable{a:Nat}
def qzs{v11:Type}{l:V v11}(hh:h<=l.length):(qE l a h).length=h-a:=by simp[qE];omega
variable{x:Cx}
variable{sz:Nat}
def zad{l:V (V U)}{vs:V O}(hr:iX x sz l vs):iX x sz (qE l a h) (vs.drop (a*sz)):=by refine z78 fun i c hc=>?_;rw[z99]at hc;split at hc;have:=xi hr _ _ hc;rw[List.drop_drop];rw[Nat.add_mul]at this;exact this;cases hc
def zb0{l:V (V U)}(h:(l.all fun c=>Nat.beq c.length sz)=true):∀c∈l,c.length=sz:=fun c hc=>by
 have:=List.all_eq_true.1 h c hc;simpa[beq_eq]using this
def z79{j9:Nat}{l:V (V U)}{vs:V O}(hr:iX x sz l vs)(d5:l≠[])(h:(l.all fun c=>Nat.beq c.length j9)=true):sz=j9:=by rcases l with _|⟨c,l⟩;exact absurd rfl d5;rw[<-(xi hr 0 c rfl).1];exact zb0 h c (by simp)
def xh{x:Cx}{sz:Nat}:∀{l:V (V U)}{vs:V O},iX x sz l vs->l.length*sz<=vs.length
 |[],vs,h=>by simp
 |d::l,vs,h=>by simp[iX]at h;have h1:=cO.len h.2.2.1;have h2:=xh h.2.2.2;rw[List.length_drop]at h2;rw[zO,Nat.succ_mul];omega
def qxc{x:Cx}{sz:Nat}:∀{l:V (V U)}{vs:V O},iX x sz l vs->bB x l.flatten (vs.take (l.length*sz))/\okL l.flatten=true
 |[],vs,h=>by simpa[okL]using bB.nil x
 |d::l,vs,h=>by
  simp[iX]at h;have⟨h1,h2,h3,h4⟩:=h;have⟨g1,g2⟩:=qxc h4;refine⟨?_,by simpa using JB h2 g2⟩;have e:vs.take ((d::l).length*sz)=vs.take d.length++(vs.drop sz).take (l.length*sz):=by rw[zO,Nat.succ_mul,Nat.add_comm,List.take_add,h1]
  rw[e,List.flatten_cons];exact h3.takeE.append g1
def qzc(T:Tb)(x:Cx)(t:TypeId)(u:U)(va:O)(lo hi mx:M O):Prop :=
 (∃v,o6 T t va lo hi mx=some v/\aD x u v)\/(o6 T t va lo hi mx=none/\∃v,GZ T x.s t va lo hi mx=some v/\aD x u v)\/ (o6 T t va lo hi mx=none/\GZ T x.s t va lo hi mx=none/\∃v,Ey T x.s t va lo hi mx=some (v,(bump x).s)/\aD (bump x) u v)
def rG{b:Nat}(h:a<b):Nat.blt a b=true:=Nat.ble_eq_true_of_le h
def MC{b:Nat}(h:¬ a<b):Nat.blt a b=false:=by rcases hb:Nat.blt a b with _|_;rfl;exact absurd (J6 hb) h
variable{T:Tb}
variable{t:TypeId}
variable{e:TypeId}
variable{i:Nat}
variable{off:Nat}
variable{row:V O}
def qrj(hd:T.und t=some (.slice e))(hs:cT T e=some sz)(dU:0<sz){d:Nat}(hn:0<n)(eL:off=d*sz)(gM:F9 x.s i sz=some row)
  (aZ:off+n*sz<=row.length) (hb:i8 n n lo hi none=some (l,h,m)):
  let va:=Value.slice (some ⟨i,off,none⟩) n (bY+d)
  o6 T t va lo hi none=none/\(if l<h\/l=0 then GZ T x.s t va lo hi none=some (.slice (some ⟨i,(d+l)*sz,none⟩) (h-l) (bY+(d+l)))
   else GZ T x.s t va lo hi none=none/\Ey T x.s t va lo hi none=some (.slice (some ⟨x.s.nx,0,none⟩) 0 bY,(bump x).s)):=by
 have hc:Nat.blt (bY+d) bY=false:=MC (by omega);obtain⟨n',rfl⟩:∃q,n=q+1:=⟨n-1,by omega⟩;have BL:bR (bY+d)=d:=by simp[bR]
 have xP:n'+1<=(row.length-off)/sz:=by rw[Nat.le_div_iff_mul_le dU];omega
 obtain⟨b1,b2,b3,_⟩:=RW hb xP;have KG:Nat.ble (off+h*sz) row.length=true:=Nat.ble_eq_true_of_le (by have:h*sz<=(n'+1)*sz:=Nat.mul_le_mul_right _ b3;omega);refine⟨by simp[o6,hd,hc,emptyS],?_⟩;have KI:Nat.beq off (d*sz)=true:=by simp[eL]
 have gA:Nat.blt 0 sz=true:=rG dU;cases l with
 |zero=>simp only[or_true,if_true];simp only[GZ,hd,hc,zD,hs,gM,BL,KI,zC,gA,b1,KG];simp[eL]|succ l=>
  by_cases aF:l+1<h;simp only[aF,true_or,if_true];simp only[GZ,hd,hc,zD,hs,gM,BL,KI,zC,gA,b1,KG,rG aF];simp[eL,Nat.add_mul,Nat.add_assoc];have:¬ (l+1<h\/l+1=0):=by omega
  simp only[this,if_false];simp only[GZ,Ey,hd,hc,zD,hs,gM,BL,KI,zC,gA,b1,KG,MC aF];simp[bump]
def quv(hd:T.und t=some (.slice e))(hs:cT T e=some sz)(dU:0<sz){d:Nat}(hn:0<n)(eL:off=d*sz)(gM:F9 x.s i sz=some row)
  (aZ:off+n*sz<=row.length) {vm:O} (hb:i8 n n lo hi (some vm)=some (l,h,m)) (hm:m<bY):
  let va:=Value.slice (some ⟨i,off,none⟩) n (bY+d)
  o6 T t va lo hi (some vm)=none/\GZ T x.s t va lo hi (some vm)=some (.slice (some (cond (Nat.beq m l) ⟨i,off,none⟩ ⟨i,off+l*sz,none⟩)) (h-l) (m-l)):=by
 have hc:Nat.blt (bY+d) bY=false:=MC (by omega);obtain⟨n',rfl⟩:∃q,n=q+1:=⟨n-1,by omega⟩;have BL:bR (bY+d)=d:=by simp[bR]
 have xP:n'+1<=(row.length-off)/sz:=by rw[Nat.le_div_iff_mul_le dU];omega
 have⟨b0,b1,b2,b3,b4⟩:=Od hb;have Wh:=(FJ b0 xP).1;have KG:Nat.ble (off+m*sz) row.length=true:=Nat.ble_eq_true_of_le (by have:m*sz<=(n'+1)*sz:=Nat.mul_le_mul_right _ b3;omega);refine⟨by simp[o6,hd,hc,emptyS],?_⟩;have KI:Nat.beq off (d*sz)=true:=by simp[eL]
 have gA:Nat.blt 0 sz=true:=rG dU;simp[GZ,hd,hc,zD,hs,gM,BL,KI,zC,gA,Wh,KG,b4 m (zF _),rG hm]
def z2l{s:S}{l:V O}(h:lk s.h i=some (.inl (l,e,sz+2))):F9 s i sz=some l:=by simp[F9,h]
def qsg{s:S}{l:V O}(h:lk s.h i=some (.inl (l,sz+1,1))):F9 s i sz=some l:=by simp[F9,h]
variable{k:Nat}
variable{iL:Nat}
def zc5{n' c':Nat}(hr:aD x (.sl k off n c) v)(hi:x.Y k=some i)(hc:c'<bY)(hn:n'<=c'):aD x (.sl k iL n' c') (.slice (some ⟨i,iL,none⟩) n' c'):=by simp[aD]at*;exact⟨rfl,hr.2.1,fun b hb=>⟨(hr.2.2 b hb).1,fun _=>⟨i,hi,rfl,hc,hn⟩⟩⟩
def z7a{st:Nat}(hr:aD x (.ptr k st off) v)(hi:x.Y k=some i):aD x (.ptr k st iL) (.pointer (some ⟨i,iL,none⟩)):=by simp only[aD]at*;exact⟨rfl,hr.2.1,fun b hb=>⟨(hr.2.2 b hb).1,fun _=>⟨i,hi,rfl⟩⟩⟩
def Mj{st n':Nat}{l:V U}{v':O}(hr:aD x (.vl k st off n) v)(hb:gt x.X.h k=some (.vec l e sz st))(h1:v'.oneCell'=true)(h:I5 iL n' v' sz (x.Y k)):aD x (.vl k st iL n') v':=by simp[aD]at*;refine⟨h1,hr.2.1,fun b cP=>⟨(hr.2.2 b cP).1,fun _=>?_⟩⟩;rw[hb]at cP;cases cP;exact⟨l,e,sz,rfl,h⟩
def GE:Nat.blt 0 bY=true:=rG (by simp[bY])
def vd(hb:i8 0 0 lo hi mx=some (l,h,m)):l=0/\h=0/\m=0:=by
 cases mx with
 |none=>have⟨_,b2,b3,b4⟩:=RW hb (zF _);omega
 |some vm=>have⟨_,b2,b3,b4,_⟩:=Od hb;omega
def XR{t:D1}{l:V (V U)}(hg:lk x.s.h i=some (.inl (row,e,1)))(hr:iX x sz l (row.drop off))(hh:h<=l.length)(eL:a<h->iL=off+a*sz)
  (ht:t=true->c=h-a/\c<bY) (hc:a<h->(c<bY/\h-a<=c)\/(bY<=c/\e=sz+1/\0<sz/\iL=bR c*sz)):aD x (.isl t (qE l a h)) (.slice (some ⟨i,iL,none⟩) (h-a) c):=by
 have aZ:=qzs (a:=a) hh;simp only[aD];refine .inr ⟨i,iL,c,by rw[aZ],by rw[aZ];exact ht,?_⟩;by_cases aF:a<h;have e1:row.drop iL=(row.drop off).drop (a*sz):=by rw[List.drop_drop,eL aF]
 have KE:=zad (a:=a) (h:=h) hr;rw[<-e1]at KE;refine .inr ⟨row,e,sz,hg,KE,?_⟩;rw[aZ];rcases hc aF with hc |⟨c1,c2,c3,c4⟩;exact .inl hc;refine .inr ⟨c1,c2,c3,c4,?_⟩;have:=xh KE;rw[aZ,List.length_drop]at this;have gA:0<(h-a)*sz:=Nat.mul_pos (by omega) c3;omega;exact .inl (List.eq_nil_of_length_eq_zero (by rw[aZ];omega))
def z7p(hd:T.und t=some (.slice e))(hs:cT T e=some sz){tt:D1}{l:V (V U)}{u:U}{va:O}(cU:(l.all fun c=>Nat.beq c.length sz)=true)
  (hb:i8 l.length l.length lo hi mx=some (a,h,m)) (hu:match mx with
   |some _=>m<bY/\u=.isl (Nat.beq m h) (qE l a h)|none=>u=.isl (cond tt (Nat.beq h l.length) false) (qE l a h)) (ha:aD x (.isl tt l) va):qzc T x t u va lo hi mx:=by
 simp only[aD]at ha;rcases ha with⟨rfl,rfl |⟨r,rfl⟩⟩|⟨i,off,c,rfl,ht,dX⟩;obtain⟨rfl,rfl,rfl⟩:=vd hb;refine .inl ⟨.slice none 0 0,by simp only[zS]at hb;simp[o6,hd,hb,hs,GE],?_⟩;rcases mx with _|vm;simp only at hu;subst hu;simp[aD,qE];simp only at hu;rw[hu.2];simp[aD,qE];obtain⟨rfl,rfl,rfl⟩:=vd hb;refine .inl ⟨.chan (some r),by simp only[zS]at hb;simp[o6,hd,hb,hs],?_⟩;rcases mx with _|vm;simp only at hu;subst hu;simp[aD,qE];simp only at hu;rw[hu.2];simp[aD,qE];by_cases d5:l=[];subst d5;obtain⟨rfl,rfl,rfl⟩:=vd hb;simp only[zS]at hb ht;have fin:∀(t':D1)(iL c':Nat),(t'=true->c'=0)->aD x (.isl t' (qE [] 0 0)) (.slice (some ⟨i,iL,none⟩) 0 c'):=fun t' iL c' h1=>by simp only[aD];exact .inr ⟨i,iL,c',by simp[qE],fun h=>by rw[h1 h];simp[qE,bY],.inl (by simp[qE])⟩
 by_cases hc:c<bY;cases mx with
 |none=>
  simp only[zS]at hu;subst hu;obtain⟨b1,_⟩:=RW hb (Nat.zero_le c);have v7:(cond tt (Nat.beq 0 0) false=true)->c=0:=fun h=>(ht (by cases tt<;>simp_all)).1;cases wG:Nat.beq c 0 with
  |true=>exact .inl ⟨_,by simp only[zS,o6,hd,rG hc,zC,b1,hs,wG]<;>rfl,fin _ off c v7⟩|false=>exact .inl ⟨_,by simp only[zS,o6,hd,rG hc,zC,zD,b1,hs,wG]<;>rfl,fin _ _ c v7⟩
 |some vm=>simp only at hu;obtain⟨_,_,_,_,b4⟩:=Od hb;rw[hu.2];exact .inl ⟨_,by simp only[zS,o6,hd,rG hc,zC,b4 c (Nat.zero_le _),hs]<;>rfl,fin _ off 0 (fun _=>rfl)⟩
 cases mx with|none=>simp only[zS]at hu;subst hu;exact .inl ⟨_,by simp only[zS,o6,hd,MC hc,zD,emptyS,hb,hs]<;>rfl,fin _ off c (fun h=>absurd (ht (by cases tt<;>simp_all)).2 hc)⟩|some vm=>simp only at hu;rw[hu.2];exact .inl ⟨_,by simp only[zS,o6,hd,MC hc,zD,emptyS,hb,hs]<;>rfl,fin _ off 0 (fun _=>rfl)⟩
 rcases dX with dX |⟨row,e',j9,g1,g2,g3⟩;exact absurd dX d5;have dU:=z79 g2 d5 cU;subst dU;have gA:0<l.length:=by cases l<;>simp_all
 rcases g3 with⟨hc,pg⟩|⟨hc,he,hz,eL,aZ⟩;cases mx with
 |none=>
  simp only at hu;subst hu;obtain⟨b1,b2,b3,b4⟩:=RW hb pg;have v7:(cond tt (Nat.beq h l.length) false=true)->c-a=h-a/\c-a<bY:=fun hh=>by rcases tt with _|_;simp at hh;simp at hh;have:=(ht rfl).1;omega
  cases wG:Nat.beq c a with
  |true=>
   have:c=a:=by simpa[beq_eq]using wG
   exact .inl ⟨_,by simp only[o6,hd,rG hc,zC,b1,hs,wG]<;>rfl,XR g1 g2 b3 (fun h1=>by omega) v7 (fun h1=>by omega)⟩
  |false=>exact .inl ⟨_,by simp only[o6,hd,rG hc,zC,zD,b1,hs,wG]<;>rfl,XR g1 g2 b3 (fun h1=>rfl) v7 (fun h1=>.inl (by omega))⟩
 |some vm=>
  simp only at hu;rw[hu.2];obtain⟨b0,b1,b2,b3,b4⟩:=Od hb;have v7:Nat.beq m h=true->m-a=h-a/\m-a<bY:=fun hh=>by simp at hh;omega
  cases wG:Nat.beq m a with
  |true=>
   have:m=a:=by simpa[beq_eq]using wG
   exact .inl ⟨_,by simp only[o6,hd,rG hc,zC,b4 c (by omega),hs,wG]<;>rfl,XR g1 g2 (by omega) (fun h1=>by omega) v7 (fun h1=>by omega)⟩
  |false=>exact .inl ⟨_,by simp only[o6,hd,rG hc,zC,zD,b4 c (by omega),hs,wG]<;>rfl,XR g1 g2 (by omega) (fun h1=>rfl) v7 (fun h1=>.inl (by omega))⟩
 obtain⟨d,rfl⟩:∃d,c=bY+d:=⟨c-bY,by omega⟩;have BL:bR (bY+d)=d:=by simp[bR]
 rw[BL]at eL;subst he;have htt:tt=false:=by rcases tt with _|_;rfl;exact absurd (ht rfl).2 (by omega)
 subst htt;cases mx with
 |none=>simp only[zD]at hu;subst hu;obtain⟨b1,b2,b3,b4⟩:=RW hb (zF _);obtain⟨s1,s2⟩:=qrj hd hs hz (i:=i) (n:=l.length) (d:=d) gA eL (qsg g1) aZ hb;split at s2;exact .inr (.inl ⟨s1,_,s2,XR g1 g2 b3 (fun _=>by rw[eL,Nat.add_mul]) (fun h=>by cases h) (fun _=>.inr ⟨by omega,rfl,hz,by simp[bR]⟩)⟩);refine .inr (.inr ⟨s1,s2.1,_,s2.2,?_⟩);have hn:(qE l a h)=[]:=List.eq_nil_of_length_eq_zero (by rw[qzs b3];omega);rw[hn];simp only[aD];exact .inr ⟨x.s.nx,0,bY,rfl,(fun h=>by cases h),.inl trivial⟩
 |some vm=>
  simp only at hu;rw[hu.2];obtain⟨b0,b1,b2,b3,b4⟩:=Od hb;obtain⟨s1,s2⟩:=quv hd hs hz (i:=i) (n:=l.length) (d:=d) gA eL (qsg g1) aZ hb hu.1;have v7:Nat.beq m h=true->m-a=h-a/\m-a<bY:=fun hh=>by simp at hh;omega
  cases wG:Nat.beq m a with
  |true=>
   have:m=a:=by simpa[beq_eq]using wG
   rw[wG,zC]at s2;exact .inr (.inl ⟨s1,_,s2,XR g1 g2 (by omega) (fun h1=>by omega) v7 (fun h1=>by omega)⟩)
  |false=>rw[wG,zD]at s2;exact .inr (.inl ⟨s1,_,s2,XR g1 g2 (by omega) (fun h1=>rfl) v7 (fun h1=>.inl (by omega))⟩)
def z7q(hx:jY x){a u:U}{va:O}(h:RC T x.X t a lo hi mx=some u)(ha:aD x a va):qzc T x t u va lo hi mx:=by
 unfold RC at h;rcases hd:T.und t with _|d;simp[hd]at h;cases d with
 |string=>
  simp only[hd]at h;cases a with
  |str s=>cases mx with|some _=>simp at h|none=>simp only at h;rcases hb:i8 s.length s.length lo hi none with _|q;simp[hb]at h;obtain⟨l,hh,m⟩:=q;simp only[hb,zA]at h;subst h;simp only[aD]at ha;subst ha;exact .inl ⟨.string ⟨((s.take hh).drop l).toArray⟩,by simp[o6,hd,hb],by simp[aD,qE]⟩
  |_=>simp at h
 |slice e=>
  simp only[hd]at h;rcases hs:cT T e with _|sz;simp[hs]at h;simp only[hs]at h;cases a with
  |nils=>simp only at h;simp only[aD]at ha;subst ha;rcases hb:i8 0 0 lo hi mx with _|q;simp[hb]at h;obtain⟨l,hh,m⟩:=q;simp only[hb,zA]at h;subst h;obtain⟨rfl,rfl,rfl⟩:=vd hb;exact .inl ⟨.slice none 0 0,by simp[o6,hd,hb,hs,GE],by simp[aD]⟩
  |sl k off n c=>
   simp only at h;rcases hl:cM x.X k 0 with _|_;simp[hl]at h;simp only[hl,zC]at h;rcases hb:i8 n c lo hi mx with _|q;simp[hb]at h;obtain⟨l,hh,m⟩:=q;simp only[hb,zA]at h;subst h;obtain⟨i,kY,rfl,hc,vB⟩:=O3 hl ha;obtain⟨_,hmc⟩:=z8y hb;have hhm:=z8z hb vB;cases wG:Nat.beq m l with
   |true=>exact .inl ⟨_,by simp only[o6,hd,rG hc,zC,hb,hs,wG]<;>rfl,zc5 ha kY (by omega) (by omega)⟩|false=>exact .inl ⟨_,by simp only[o6,hd,rG hc,zC,zD,hb,hs,wG]<;>rfl,zc5 ha kY (by omega) (by omega)⟩
  |vl k st off n=>
   simp only at h;rcases hv:B0 x.X k st with _|q;simp[hv]at h;obtain⟨r,e',j9⟩:=q;obtain⟨hg,hl⟩:=jr hv;simp only[hv,beq_eq]at h;by_cases hz:j9=sz;subst hz;simp only[yC,zC]at h;cases mx with
   |some _=>simp at h|none=>
    simp only at h;rcases hb:i8 n n lo hi none with _|q;simp[hb]at h;obtain⟨l,hh,m⟩:=q;simp only[hb]at h;split at h;rename_i aZ;simp only[zA]at h;subst h;obtain⟨l0,e0,Ly,PB,nV⟩:=XV hl ha;have hgg:(some (B.vec r e' j9 st))=some (.vec l0 e0 Ly st):=hg.symm.trans PB;cases hgg;obtain⟨_,k1,k2,h3⟩:=hx.ok k _ hg;have zero:∀o c,n=0->va=.slice o 0 c->(∀a,o=some a->a.spot=none)->(o=none->c=0)->∃o' c',o6 T t va lo hi none=some (.slice o' 0 c')/\(c=0->c'=0)/\(∀a,o'=some a->a.spot=none)/\(o=none->o'=none)/\(∀a,o=some a->∃a',o'=some a')/\(¬ c<bY->o'=o/\c'=c):=by
     rintro o c rfl rfl v8 ho;obtain⟨b1,b2,b3,b4⟩:=RW hb (Nat.zero_le c);obtain rfl:hh=0:=by omega
     obtain rfl:l=0:=by omega
     by_cases hc:c<bY;rcases o with _|a;exact⟨none,c,by simp[o6,hd,rG hc,b1,hs],by simp,by simp,by simp,by simp,fun hn=>absurd hc hn⟩;rcases wG:Nat.beq c 0 with _|_;exact⟨some ⟨a.block,a.off+0*j9,none⟩,c,by simp only[o6,hd,rG hc,b1,hs,wG,zC,zD,Nat.sub_zero],by simp,by simp,by simp,by simp,fun hn=>absurd hc hn⟩;exact⟨some a,c,by simp only[o6,hd,rG hc,b1,hs,wG,zC,Nat.sub_zero],by simp,by simpa using v8 a rfl,by simp,by simp,fun hn=>absurd hc hn⟩;rcases o with _|a;exact absurd (by rw[ho rfl];simp[bY]) hc;obtain rfl:m=0:=by omega
     exact⟨some a,c,by simp only[o6,hd,MC hc,zD,emptyS,hb,hs],by simp,by simpa using v8 a rfl,by simp,by simp,fun _=>⟨rfl,rfl⟩⟩
    have MX:n=0->l=0/\hh=0:=fun An=>by obtain⟨b1,b2,b3,b4⟩:=RW hb (zF _);omega
    rcases h3 with⟨hr0,k8⟩|⟨i,l',e1,e2,e3⟩;rw[k8]at nV;obtain⟨rfl,rfl,o,rfl,v8⟩:=nV;obtain⟨rfl,rfl⟩:=MX rfl;obtain⟨o',c',q1,q2,q3,q4,q5,q6⟩:=zero o 0 rfl rfl v8 (fun _=>rfl);rw[q2 rfl]at q1;exact .inl ⟨_,q1,Mj ha hg rfl (by rw[k8];exact⟨rfl,rfl,o',rfl,q3⟩)⟩;rw[e1]at nV;rcases nV with⟨h0,rfl,a,c,rfl,v8⟩|rfl;obtain⟨rfl,rfl⟩:=MX rfl;obtain⟨o',c',q1,q2,q3,q4,q5,q6⟩:=zero (some a) c rfl rfl (by simpa using v8) (by simp);obtain⟨a',rfl⟩:=q5 a rfl;exact .inl ⟨_,q1,Mj ha hg rfl (by rw[e1];exact .inl ⟨by omega,rfl,a',c',rfl,q3 a' rfl⟩)⟩;by_cases hn:n=0;subst hn;obtain⟨rfl,rfl⟩:=MX rfl;obtain⟨o',c',q1,q2,q3,q4,q5,q6⟩:=zero (some ⟨i,off*j9,none⟩) (bY+off) rfl rfl (by simp) (by simp);obtain⟨rfl,rfl⟩:=q6 (by omega);exact .inl ⟨_,q1,Mj ha hg rfl (by rw[e1];exact .inr rfl)⟩;have:=qrj hd hs k2 (i:=i) (n:=n) (d:=off) (by omega) rfl (z2l e2) (by rw[<-e3.2,<-Nat.add_mul];exact aZ) hb;obtain⟨s1,s2⟩:=this;split at s2;exact .inr (.inl ⟨s1,_,s2,Mj ha hg rfl (by rw[e1];exact .inr rfl)⟩);rename_i aF;obtain⟨b1,b2,b3,b4⟩:=RW hb (zF _);refine .inr (.inr ⟨s1,s2.1,_,s2.2,?_⟩);have cP:=fb ha;have W?:hh-l=0:=by omega
    rw[W?];exact Mj (x:=bump x) cP hg rfl (by show I5 _ _ _ _ (x.Y k);rw[e1];exact .inl ⟨by omega,rfl,_,_,rfl,rfl⟩);cases h
   simp[hz]at h
  |isl tt l=>simp only at h;split at h;rename_i cU;rcases hb:i8 l.length l.length lo hi mx with _|q;simp[hb]at h;obtain⟨a,hh,m⟩:=q;simp only[hb]at h;refine z7p hd hs (tt:=tt) cU hb ?_ ha;rcases mx with _|vm;simp only[zA]at h ⊢;exact h.symm;simp only at h ⊢;split at h;rename_i hm;simp only[zA]at h;exact⟨hm,h.symm⟩;cases h;cases h
  |_=>simp at h
 |_=>simp[hd]at h
variable{T:Tb}
variable{x:Cx}
variable{a:U}
variable{u:U}
variable{va:O}
def qy9{st:TypeId}{f:Nat}(h:Ob T x.X st a f=some u)(ha:aD x a va):∃v,Oa T st va f=some v/\aD x u v:=by
 unfold Ob at h;unfold Oa;rcases hd:T.und st with _|d;simp[hd]at h;cases d with
 |struct fs=>
  simp only[hd]at h ⊢;rcases hf:nth fs.toList f with _|fd;simp[hf]at h;simp only[hf]at h ⊢;rcases hs:cT T fd.type with _|n;simp[hs]at h;cases n with
  |zero=>simp[hs]at h|succ n=>
   simp only[hs]at h;cases a with
   |ptr k s off=>simp only at h;rcases hl:cM x.X k s with _|_;simp[hl]at h;simp only[hl,zC,zA]at h;subst h;obtain⟨i,hi,rfl⟩:=Y0 hl ha;exact⟨_,rfl,z7a ha hi⟩
   |iptr l=>simp only[zA]at h;subst h;simp only[aD]at ha;obtain⟨i,off,row,e,rfl,h2,h3,h4⟩:=ha;refine⟨_,rfl,?_⟩;simp only[aD];exact⟨i,off+fd.offset,row,e,rfl,h2,by rw[<-List.drop_drop];exact h3.drop _,HB h4 _⟩
   |_=>simp at h
 |_=>simp[hd]at h
def z56{st:TypeId}{f:Nat}(h:cq T st a f=some u)(ha:aD x a va):∃v,Mr T st va f=some v/\aD x u v:=by
 unfold cq at h;unfold Mr;rcases hd:T.und st with _|d;simp[hd]at h;cases d with
 |struct fs=>
  simp[hd]at h ⊢;rcases hf:nth fs.toList f with _|fd;simp[hf]at h;simp[hf]at h ⊢;cases a with
  |agg cs=>simp[aD]at ha;obtain⟨vs,rfl,h1,h2,h3⟩:=ha;exact z0x h ⟨h1,h2⟩ h3
  |_=>simp at h
 |_=>simp[hd]at h
def NX{i:Int}{n:Nat}(h:0<=i/\i<n):sK i n=true:=by
 unfold sK;cases i with
 |ofNat k=>exact rG (by have:=h.2;simp at this;exact this)|negSucc k=>have:=h.1;omega
variable{t:TypeId}
def qyh(hx:jY x){b:U}{vb:O}(h:HC T x.X t a b=some u)(ha:aD x a va)(hb:aD x b vb):∃v,Nu T t va vb=some v/\aD x u v:=by
 unfold HC at h;cases b with
 |int k i=>
  simp only[aD]at hb;subst hb;simp only[Nu];simp only at h;rcases hd:T.und t with _|d;simp[hd]at h;cases d with
  |slice e=>
   simp only[hd]at h;rcases hs:cT T e with _|sz;simp[hs]at h;simp only[hs]at h;cases a with
   |sl k off n c=>simp only at h;rcases hl:cM x.X k 0 with _|_;simp[hl]at h;simp only[hl,zC]at h;split at h;rename_i iS;simp only[zA]at h;subst h;obtain⟨i',hi,rfl,_⟩:=O3 hl ha;refine⟨_,by simp only[NX iS,zC,hs]<;>rfl,?_⟩;obtain⟨b,q1,q2⟩:=Oj hl;simp only[aD]at ha ⊢;exact⟨rfl,ha.2.1,fun b hb=>⟨Nat.zero_le _,fun _=>⟨i',hi,rfl⟩⟩⟩;cases h
   |vl k st off n=>simp only at h;rcases hv:B0 x.X k st with _|q;simp[hv]at h;obtain⟨l,e',j9⟩:=q;obtain⟨hg,hl⟩:=jr hv;simp only[hv,beq_eq]at h;by_cases hz:j9=sz;subst hz;simp only[yC,zC]at h;split at h;rename_i iS;simp only[zA]at h;subst h;obtain⟨i',l0,e0,Ly,l',h1,h2,rfl,h4,h5,h6,h7⟩:=ap hx hl ha (by omega);have:=hg.symm.trans h1;cases this;refine⟨_,by simp only[NX ⟨iS.1,iS.2.1⟩,zC,hs]<;>rfl,?_⟩;simp only[aD]at ha ⊢;refine⟨rfl,ha.2.1,fun b hb=>⟨(ha.2.2 b hb).1,fun _=>⟨i',h2,rfl⟩⟩⟩;cases h;simp[hz]at h
   |isl tt l=>simp only at h;split at h;rename_i iS;rcases hc:l[i.toNat]? with _|c;simp[hc]at h;simp only[hc,beq_eq]at h;by_cases hz:c.length=sz;simp only[hz,yC,zC,zA]at h;subst h;simp only[aD]at ha;rcases ha with⟨rfl,_⟩|⟨i',off,c',rfl,ht,dX⟩;simp at hc;rcases dX with rfl |⟨row,e',j9,g1,g2,g3⟩;simp at hc;obtain⟨q1,q2,q3⟩:=xi g2 _ _ hc;refine⟨_,by simp only[NX iS,zC,hs]<;>rfl,?_⟩;simp only[aD];refine⟨i',off+i.toNat*sz,row,e',rfl,g1,?_,q2⟩;rw[List.drop_drop]at q3;rw[<-hz,q1];exact q3;simp[hz]at h;cases h
   |_=>simp at h
  |array n e=>
   simp only[hd]at h;rcases hs:cT T e with _|sz;simp[hs]at h;simp only[hs]at h;cases a with
   |ptr k st off=>simp only at h;rcases hl:cM x.X k st with _|_;simp[hl]at h;simp only[hl,zC]at h;split at h;rename_i iS;simp only[zA]at h;subst h;obtain⟨i',hi,rfl⟩:=Y0 hl ha;exact⟨_,by simp only[NX iS,zC,hs]<;>rfl,z7a ha hi⟩;cases h
   |iptr l=>simp only at h;split at h;rename_i iS;simp only[zA]at h;subst h;simp only[aD]at ha;obtain⟨i',off,row,e',rfl,h2,h3,h4⟩:=ha;refine⟨_,by simp only[NX iS,zC,hs]<;>rfl,?_⟩;simp only[aD];exact⟨i',_,row,e',rfl,h2,by rw[<-List.drop_drop];exact h3.drop _,HB h4 _⟩;cases h
   |_=>simp at h
  |_=>simp[hd]at h
 |_=>simp at h
def z5v{b:U}{vb:O}(h:ze T t a b=some u)(ha:aD x a va)(hb:aD x b vb):∃v,XK T t va vb=some v/\aD x u v:=by
 unfold ze at h;cases a with
 |agg cs=>
  simp only at h;cases b with
  |int k i=>
   simp only[aD]at ha hb;subst hb;obtain⟨vs,rfl,h1,h2,h3⟩:=ha;simp only at h;rcases hd:T.und t with _|d;simp[hd]at h;cases d with
   |array n e=>simp only[hd]at h;split at h;rename_i iS;rcases hs:cT T e with _|sz;simp[hs]at h;simp[hs]at h;have⟨v,q1,q2⟩:=z0x h ⟨h1,h2⟩ h3;exact⟨v,by simp[XK,hd,NX iS,zC,hs];exact q1,q2⟩;cases h
   |_=>simp[hd]at h
  |_=>simp at h
 |_=>exact U7 h ha hb
def zd9(hx:jY x)(h:lenU T x.X t a=some u)(ha:aD x a va):
  ∃ v,(FR T t va=some v\/(FR T t va=none/\∃ kt et r,T.und t=some (.map kt et)/\va = .map r/\(match r with
     |none=>some (Value.int .i64 0)|some r=>match lk x.s.h r with
      |some (.inr (es,_))=>some (.int .i64 es.length)|_=>none)=some v))/\aD x u v:=by
 unfold lenU at h;unfold FR;rcases hd:T.und t with _|d;simp[hd]at h;cases d with
 |string=>
  simp only[hd]at h ⊢;cases a with
  |str s=>simp only[zA]at h;subst h;simp only[aD]at ha;subst ha;exact⟨_,.inl rfl,by simp[aD]⟩|_=>simp at h
 |slice e=>
  simp only[hd]at h ⊢;cases a with
  |nils=>simp only[zA]at h;subst h;simp only[aD]at ha;subst ha;exact⟨_,.inl rfl,by simp[aD]⟩|sl k off n c=>simp only at h;rcases hl:cM x.X k 0 with _|_;simp[hl]at h;simp only[hl,zC,zA]at h;subst h;obtain⟨i,_,rfl,_⟩:=O3 hl ha;exact⟨_,.inl rfl,by simp[aD]⟩
  |vl k st off n=>simp only at h;rcases hl:cM x.X k st with _|_;simp[hl]at h;simp only[hl,zC,zA]at h;subst h;obtain⟨_,_,_,_,hv⟩:=XV hl ha;obtain⟨o,c,rfl⟩:=bm hv;exact⟨_,.inl rfl,by simp[aD]⟩
  |isl tt l=>simp only[zA]at h;subst h;simp only[aD]at ha;rcases ha with⟨rfl,rfl |⟨_,rfl⟩⟩|⟨_,_,_,rfl,_⟩<;>exact⟨_,.inl rfl,by simp[aD]⟩
  |_=>simp at h
 |array n e=>simp only[hd]at h ⊢;cases a<;>simp at h<;>subst h<;>exact⟨_,.inl rfl,by simp[aD]⟩|map kt et=>
  simp only[hd]at h ⊢;cases a with
  |nilm=>simp only[zA]at h;subst h;simp only[aD]at ha;subst ha;exact⟨_,.inr ⟨trivial,kt,et,none,rfl,rfl,rfl⟩,by simp[aD]⟩|map k=>
   simp only at h;rcases hg:gt x.X.h k with _|b;simp[hg]at h;cases b with
   |map es cl=>simp only[hg,zA]at h;subst h;obtain⟨i,hi,rfl⟩:=xn (x:=x) (by simp[cM,hg,B.st]) ha;obtain⟨_,i',es',e1,e2,e3⟩:=hx.ok k _ hg;rw[hi]at e1;cases e1;exact⟨.int .i64 es'.length,.inr ⟨trivial,kt,et,some i,rfl,rfl,by simp[e2]⟩,by simp[aD,e3.1]⟩
   |_=>simp[hg]at h
  |_=>simp at h
 |_=>simp[hd]at h
def zcr(hx:jY x)(h:Dg T x.X t a=some u)(ha:aD x a va):∃v,LB T t va=some v/\aD x u v:=by
 unfold Dg at h;unfold LB;rcases hd:T.und t with _|d;simp[hd]at h;cases d with
 |slice e=>
  simp[hd]at h ⊢;cases a with
  |nils=>simp[zA]at h;subst h;simp[aD]at ha;subst ha;exact⟨_,rfl,by simp[aD]⟩|sl k off n c=>simp only at h;rcases hl:cM x.X k 0 with _|_;simp[hl]at h;simp[hl,zC,zA]at h;subst h;obtain⟨i,_,rfl,hc,_⟩:=O3 hl ha;have mV:Nat.blt c bY=true:=Nat.ble_eq_true_of_le hc;exact⟨.int .i64 c,by simp[mV,zC],by simp[aD]⟩
  |_=>simp at h
 |_=>simp[hd]at h
def za9(hx:jY x){tm:V U}{tv:V O}(ht:bB x tm tv){op:Op}(h:j4 T x.X tm op=some u):rQ T x tv op u x.X:=by
 have one:∀v,j0 T tv op=some v->aD x u v->rQ T x tv op u x.X:=fun v h1 h2=>rQ.same hx (za6 h1) h2;unfold j4 at h;cases op with
 |move o=>have⟨v,h1,h2⟩:=j6 ht h;exact one v (by simp[j0,h1]) h2
 |assign o=>have⟨v,h1,h2⟩:=j6 ht h;exact one v (by simp[j0,h1]) h2
 |pick c a b=>
  simp only at h;rcases hc:cB tm c with _|cu;simp[hc]at h;have⟨cv,c1,c2⟩:=j6 ht hc;cases cu with
  |bool t=>
   simp[aD]at c2;subst c2;cases t with
   |true=>simp[hc]at h;have⟨v,h1,h2⟩:=j6 ht h;exact one v (by simp[j0,c1,h1]) h2
   |false=>simp[hc]at h;have⟨v,h1,h2⟩:=j6 ht h;exact one v (by simp[j0,c1,h1]) h2
  |_=>simp[hc]at h
 |build t ps=>simp only at h;rcases hp:B6 tm ps.toList with _|qs;simp[hp]at h;simp[hp]at h;have⟨vs,h1,h2⟩:=ij ht hp;have⟨v,h3,h4⟩:=z4b h h2;exact one v (by simp[j0,h1,h3]) h4
 |nilCheck o=>
  simp only at h;rcases ho:cB tm o with _|a;simp[ho]at h;have⟨va,a1,a2⟩:=j6 ht ho;cases a with
  |ptr k st off=>simp[ho]at h;rcases hl:cM x.X k st with _|_;simp[hl]at h;simp[hl,zC,zA]at h;subst h;obtain⟨i,hi,rfl⟩:=Y0 hl a2;exact one _ (by simp[j0,a1]) a2
  |iptr l=>simp only[ho,zA]at h;subst h;have a3:=a2;simp only[aD]at a2;obtain⟨i,off,row,e,rfl,_⟩:=a2;exact one _ (by simp[j0,a1]) a3
  |fn f p q=>
   cases f with
   |func g=>simp[ho,zA]at h;subst h;have a3:=a2;simp[aD]at a2;obtain⟨i,off,rfl,_⟩:=a2;exact one _ (by simp[j0,a1]) a3
   |_=>simp[ho]at h
  |_=>simp[ho]at h
 |binOp o t a b ty=>simp only at h;rcases ha:cB tm a with _|au;simp[ha]at h;rcases hb:cB tm b with _|bu;simp[ha,hb]at h;simp[ha,hb]at h;have⟨va,a1,a2⟩:=j6 ht ha;have⟨vb,b1,b2⟩:=j6 ht hb;have⟨v,h1,h2⟩:=zcj hx h a2 b2;exact one v (by simp[j0,a1,b1,h1]) h2
 |unOp o t a=>simp only at h;rcases ha:cB tm a with _|au;simp[ha]at h;simp[ha]at h;have⟨va,a1,a2⟩:=j6 ht ha;have⟨v,h1,h2⟩:=U8 h a2;exact one v (by simp[j0,a1,h1]) h2
 |convert s d a=>simp only at h;rcases ha:cB tm a with _|au;simp[ha]at h;simp[ha]at h;have⟨va,a1,a2⟩:=j6 ht ha;have⟨v,h1,h2⟩:=U8 h a2;exact one v (by simp[j0,a1,h1]) h2
 |makeFunc f a b=>simp only at h;rcases ha:mJ tm a.toList with _|au;simp[ha]at h;rcases hb:mJ tm b.toList with _|bu;simp[ha,hb]at h;simp[ha,hb,zA]at h;subst h;have⟨va,a1,a2⟩:=ML ht ha;have⟨vb,b1,b2⟩:=ML ht hb;exact one _ (by simp[j0,a1,b1]<;>rfl) (by simp only[aD];exact⟨va,vb,rfl,a2.1,a2.2,b2.1,b2.2⟩)
 |slice t a lo hi mx=>simp only at h;rcases ha:cB tm a with _|au;simp[ha]at h;rcases h1:xX tm lo with _|lo';simp[ha,h1]at h;rcases h2:xX tm hi with _|kY;simp[ha,h1,h2]at h;rcases h3:xX tm mx with _|mx';simp[ha,h1,h2,h3]at h;simp[ha,h1,h2,h3]at h;have⟨va,a1,a2⟩:=j6 ht ha;have e1:=ik ht h1;have e2:=ik ht h2;have e3:=ik ht h3;rcases z7q hx h a2 with⟨v,s1,s2⟩|⟨s0,v,s1,s2⟩|⟨s0,s1,v,s2,s3⟩;exact one v (by simp[j0,a1,e1,e2,e3,s1]) s2;exact rQ.same hx (Ns (by simp[j0,a1,e1,e2,e3,s0]) (by simp[o4,a1,e1,e2,e3,s1])) s2;exact⟨v,bump x,z0r (by simp[j0,a1,e1,e2,e3,s0]) (by simp[o4,a1,e1,e2,e3,s1]) (by simp[uD,a1,e1,e2,e3,s2]),rfl,s3,z91 hx⟩
 |fieldAddr t a f=>simp only at h;rcases ha:cB tm a with _|au;simp[ha]at h;simp[ha]at h;have⟨va,a1,a2⟩:=j6 ht ha;have⟨v,h1,h2⟩:=qy9 h a2;exact one v (by simp[j0,a1,h1]) h2
 |field t a f=>simp only at h;rcases ha:cB tm a with _|au;simp[ha]at h;simp[ha]at h;have⟨va,a1,a2⟩:=j6 ht ha;have⟨v,h1,h2⟩:=z56 h a2;exact one v (by simp[j0,a1,h1]) h2
 |indexAddr t a b=>simp only at h;rcases ha:cB tm a with _|au;simp[ha]at h;rcases hb:cB tm b with _|bu;simp[ha,hb]at h;simp[ha,hb]at h;have⟨va,a1,a2⟩:=j6 ht ha;have⟨vb,b1,b2⟩:=j6 ht hb;have⟨v,h1,h2⟩:=qyh hx h a2 b2;exact one v (by simp[j0,a1,b1,h1]) h2
 |index t a b=>simp only at h;rcases ha:cB tm a with _|au;simp[ha]at h;rcases hb:cB tm b with _|bu;simp[ha,hb]at h;simp[ha,hb]at h;have⟨va,a1,a2⟩:=j6 ht ha;have⟨vb,b1,b2⟩:=j6 ht hb;have⟨v,h1,h2⟩:=z5v h a2 b2;exact one v (by simp[j0,a1,b1,h1]) h2
 |extract a i=>
  simp only at h;rcases ha:cB tm a with _|au;simp[ha]at h;simp[ha]at h;have⟨va,a1,a2⟩:=j6 ht ha;cases au with
  |tup l=>simp[aD]at a2;obtain⟨vs,rfl,q1,q2⟩:=a2;simp only[xv,jD]at h;have⟨v,h1,h2⟩:=(show bB x l vs from⟨q1,q2⟩).get h;exact one v (by simp[j0,a1,Gd,jD,h1]) h2
  |_=>simp[xv]at h
 |call c=>
  simp only at h;have⟨callee,args,ats⟩:=c;cases callee with
  |builtin b=>
   cases b with
   |len=>
    simp only at h;rcases ha:mJ tm args.toList with _|us;simp[ha]at h;have⟨vs,a1,a2⟩:=ML ht ha;rcases vI:ats.toList with _|⟨t,ts⟩;simp[ha,vI]at h;rcases us with _|⟨a,l⟩;simp[ha]at h;cases l with
    |cons _ _=>simp[ha]at h|nil=>obtain⟨va,rZ,rfl,r1,r2⟩:=a2.inv;rw[r2.nil_inv]at a1;simp[ha,vI]at h;obtain⟨v,q1,q2⟩:=zd9 hx h r1;rcases q1 with q1 |⟨q0,kt,et,r,hd,rfl,q1⟩;exact one v (by simp[j0,a1,vI,q1]) q2;refine rQ.same hx (Ns (by simp[j0,a1,vI,q0]) ?_) q2;rcases r with _|r;simp only[o4,a1,vI,hd];exact q1;simp[o4,a1,vI,hd];exact q1
   |cap=>
    simp only at h;rcases ha:mJ tm args.toList with _|us;simp[ha]at h;have⟨vs,a1,a2⟩:=ML ht ha;rcases vI:ats.toList with _|⟨t,ts⟩;simp[ha,vI]at h;rcases us with _|⟨a,l⟩;simp[ha]at h;cases l with
    |cons _ _=>simp[ha]at h|nil=>obtain⟨va,rZ,rfl,r1,r2⟩:=a2.inv;rw[r2.nil_inv]at a1;simp[ha,vI]at h;have⟨v,q1,q2⟩:=zcr hx h r1;exact one v (by simp[j0,a1,vI,q1]) q2
   |max=>simp only at h;rcases ha:mJ tm args.toList with _|us;simp[ha]at h;have⟨vs,a1,a2⟩:=ML ht ha;rcases us with _|⟨a,l⟩;simp[ha]at h;obtain⟨va,rZ,rfl,r1,r2⟩:=a2.inv;simp only[ha]at h;rcases h1:toV a with _|v1;simp[h1]at h;rcases h2:eG l with _|v2;simp[h1,h2]at h;simp[h1,h2]at h;have e1:=(yV a v1 h1 x va).1 r1;have e2:=(DW l v2 h2 x rZ).1 r2;subst e1;subst e2;rcases h3:yR R7 va rZ with _|r;simp[h3]at h;simp[h3]at h;exact one r (by simp[j0,a1,h3]) ((NT r u h).2 x)
   |min=>simp only at h;rcases ha:mJ tm args.toList with _|us;simp[ha]at h;have⟨vs,a1,a2⟩:=ML ht ha;rcases us with _|⟨a,l⟩;simp[ha]at h;obtain⟨va,rZ,rfl,r1,r2⟩:=a2.inv;simp only[ha]at h;rcases h1:toV a with _|v1;simp[h1]at h;rcases h2:eG l with _|v2;simp[h1,h2]at h;simp[h1,h2]at h;have e1:=(yV a v1 h1 x va).1 r1;have e2:=(DW l v2 h2 x rZ).1 r2;subst e1;subst e2;rcases h3:yR R6 va rZ with _|r;simp[h3]at h;simp[h3]at h;exact one r (by simp[j0,a1,h3]) ((NT r u h).2 x)
   |_=>simp at h
  |_=>simp at h
 |_=>simp at h
def Ny{T:Tb}{x:Cx}{kt:TypeId}{k:O}:∀{es:V ME}{vs:V MapEntry}(i:Nat){r:M (Nat×U)},uE x es vs->C2 T kt k es i=some r->
  (r=none/\rE T kt k vs i=some none)\/∃j u v,r=some (j,u)/\rE T kt k vs i=some (some (j,v))/\aD x u v/\i<=j/\∃e e',es[j-i]? = some e/\e.val=u/\vs[j-i]? = some e'/\aD x e.key e'.key/\e'.born=e.born/\e'.val=v
 |[],vs,i,r,hm,h=>by
  simp[C2,zA]at h;subst h;have:vs=[]:=by have:=hm.1;simpa using this.symm
  subst this;exact .inl ⟨rfl,rfl⟩
 |e::es,[],i,r,hm,h=>by have:=hm.1;simp at this
 |e::es,e'::vs,i,r,hm,h=>by
  have⟨v0,q0,q1,q2,q3⟩:=hm.2 0 e rfl;simp at q0;subst q0;have eF:uE x es vs:=⟨by have:=hm.1;simpa using this,fun j d hd=>by simpa using hm.2 (j+1) d (by simpa using hd)⟩;simp[C2]at h;rcases hk:toV e.key with _|k';simp[hk]at h;simp[hk]at h;have ek:=(yV _ _ hk x _).1 q1;rcases he:eqv T 50 kt k k' with _|b;simp[he]at h;cases b with
  |true=>simp[he,zA]at h;subst h;exact .inr ⟨i,e.val,e'.val,rfl,by simp[rE,ek,he],q2,zF _,e,e',by simp,rfl,by simp,q1,q3,rfl⟩|false=>simp[he]at h;rcases Ny (i+1) eF h with⟨h1,h2⟩|⟨j,u,v,h1,h2,h3,h4,d,d',h5,h6,h7,h8⟩;exact .inl ⟨h1,by simp[rE,ek,he,h2]⟩;refine .inr ⟨j,u,v,h1,by simp[rE,ek,he,h2],h3,by omega,d,d',?_,h6,?_,h8⟩;rw[show j-i=(j-(i+1))+1 by omega];simpa using h5;rw[show j-i=(j-(i+1))+1 by omega];simpa using h7
def z0d{l:V U}{off:Nat}{lv:V O}(h:GX T t l off=some u)(hl:cO x l lv)(hk:okL l=true):
  ∃v,(match T.und t with
    |none=>none|some d=>cond (sF d) (match cT T t with
      |some n=>match xS lv off n with
       |some cs=>some (.agg cs.toArray)|none=>none
      |none=>none) (nth lv off))=some v/\aD x u v:=by
 unfold GX at h;rcases hd:T.und t with _|d;simp[hd]at h;simp[hd]at h ⊢;cases ha:sF d with
 |true=>
  simp[ha,zC]at h ⊢;rcases hs:cT T t with _|n;simp[hs]at h;simp[hs]at h ⊢;rcases hg:lD l off n with _|cs;simp[hg]at h;simp[hg,zA]at h;subst h;obtain⟨h1,rfl⟩:=RY hg;have aZ:=cO.len hl;rw[Mi (by omega)];refine⟨_,rfl,?_⟩;simp only[aD];have:=(hl.drop off).takeE;have e1:bB x ((l.drop off).take n) ((lv.drop off).take n):=by refine bB.mk' (by simp;omega) fun i u hu=>?_;rw[List.getElem?_take]at hu ⊢;split at hu;rename_i aF;simp only[aF,if_true];exact(J5 x _ _).1 (hl.drop off) i u hu;cases hu
  exact⟨_,rfl,e1.1,e1.2,O5 (HB hk _) _⟩
 |false=>simp[ha,zD,jD]at h ⊢;exact(J5 x _ _).1 hl _ _ h
def qoh(hx:jY x){k st:Nat}{l:V U}(h:cellsOf x.X k st=some l){off:Nat}{v:O}(hr:aD x (.ptr k st off) v):
  ∃i lv e md,x.Y k=some i/\v=.pointer (some ⟨i,off,none⟩)/\lk x.s.h i=some (.inl (lv,e,md))/\md≠1/\bB x l lv/\okL l=true/\
   ((md=0/\gt x.X.h k=some (.row l e))\/(∃sz,md=sz+2/\0<sz/\gt x.X.h k=some (.vec l e sz st))):=by
 unfold cellsOf at h;rcases hg:gt x.X.h k with _|b;simp[hg]at h;cases b with
 |row l' e=>simp[hg,beq_eq]at h;by_cases cK:0=st;subst cK;simp at h;subst h;obtain⟨i,hi,rfl⟩:=Y0 (x:=x) (by simp[cM,hg,B.st]) hr;obtain⟨_,k1,i',lv,e1,e2,e3⟩:=hx.ok k _ hg;rw[hi]at e1;cases e1;exact⟨i,lv,e,0,hi,rfl,e2,by omega,e3,k1,.inl ⟨rfl,rfl⟩⟩;simp[cK]at h
 |vec l' e sz cD=>simp[hg,beq_eq]at h;by_cases cK:cD=st;subst cK;simp at h;subst h;obtain⟨i,hi,rfl⟩:=Y0 (x:=x) (by simp[cM,hg,B.st]) hr;obtain⟨_,k1,k2,h3⟩:=hx.ok k _ hg;rcases h3 with⟨h4,h5⟩|⟨i',lv,e1,e2,e3⟩;rw[hi]at h5;cases h5;rw[hi]at e1;cases e1;exact⟨i,lv,e,sz+2,hi,rfl,e2,by omega,e3,k1,.inr ⟨sz,rfl,k2,rfl⟩⟩;simp[cK]at h
 |map es cl=>simp[hg]at h
def z1b(hx:jY x){tm:V U}{tv:V O}(ht:bB x tm tv){op:Op}(h:qG T x.X tm op=some u):rQ T x tv op u x.X:=by
 unfold qG at h;cases op with
 |load t o=>
  simp only at h;rcases ho:cB tm o with _|a;simp[ho]at h;have⟨va,a1,a2⟩:=j6 ht ho;cases a with
  |ptr k st off=>simp[ho]at h;rcases hc:cellsOf x.X k st with _|l;simp[hc]at h;simp[hc]at h;obtain⟨i,lv,e,md,q1,rfl,q2,_,q3,q4,_⟩:=qoh hx hc a2;obtain⟨v,r1,r2⟩:=z0d h q3.1 q4;exact rQ.same hx (Ns (by simp[j0]) (by simp[o4,a1,q2];exact r1)) r2
  |iptr l=>
   simp only[ho]at h;simp only[aD]at a2;obtain⟨i,off,row,e,rfl,g1,g2,g3⟩:=a2;obtain⟨v,r1,r2⟩:=z0d h g2 g3;refine rQ.same hx (Ns (by simp[j0]) (v:=v) ?_) r2;simp[o4,a1,g1];rcases hd:T.und t with _|d;simp[hd]at r1;simp[hd]at r1 ⊢;cases ha:sF d with
   |true=>simp[ha,zC]at r1 ⊢;rcases hs:cT T t with _|n;simp[hs]at r1;simp[hs,xS,List.drop_drop,Nat.add_zero]at r1 ⊢;exact r1
   |false=>simp[ha,zD,jD,List.getElem?_drop,Nat.add_zero]at r1 ⊢;exact r1
  |_=>simp[ho]at h
 |lookup t a b ok=>
  simp only at h;rcases hd:T.und t with _|d;simp[hd]at h;cases d with
  |map kt et=>
   rcases ha:cB tm a with _|m;simp[hd,ha]at h;rcases hb:cB tm b with _|ku;simp[hd,ha,hb]at h;simp[hd,ha,hb]at h;have⟨va,a1,a2⟩:=j6 ht ha;have⟨vb,b1,b2⟩:=j6 ht hb;rcases hk:toV ku with _|kv;simp[hk]at h;simp[hk]at h;have ekv:=(yV _ _ hk x vb).1 b2;subst ekv;rcases vD:pJ T 50 kt vb with _|_;simp[vD]at h;simp[vD,zC]at h;have key:∀ (es:V ME) (vs:V MapEntry),(va = .map none/\vs=[]\/∃ i cl,va = .map (some i)/\lk x.s.h i=some (.inr (vs,cl)))->uE x es vs->(match C2 T kt vb es 0 with
      |none=>none|some (some (_,v))=>some (cond ok (.tup [v,.bool true]) v)
      |some none=>match T.inf et with
       |some (_,_,z)=>(match iI z with
        |some zu=>some (cond ok (.tup [zu,.bool false]) zu)|none=>none)
       |none=>none)=some u->rQ T x tv (.lookup t a b ok) u x.X:=by
    intro es vs e1 e3 h;have fin:∀v,o4 T tv x.s (.lookup t a b ok)=some v->aD x u v->rQ T x tv (.lookup t a b ok) u x.X:=fun v h1 h2=>rQ.same hx (Ns (by simp[j0]) h1) h2;have IH:∀(p:U)(q:O)(bb:D1),aD x p q->aD x (cond ok (.tup [p,.bool bb]) p) (cond ok (.tuple #[q,.bool bb]) q):=fun p q bb TR=>by rcases ok with _|_;exact TR;simp only[zC,aD];exact⟨[q,.bool bb],rfl,by simp[cO,TR,aD],rfl⟩
    rcases hf:C2 T kt vb es 0 with _|r';simp[hf]at h;rcases Ny 0 e3 hf with⟨rfl,h2⟩|⟨j,w,v,rfl,h2,h3,_⟩;simp[hf]at h;rcases hi:T.inf et with _|q;simp[hi]at h;have⟨q1,q2,z⟩:=q;simp[hi]at h;rcases hz:iI z with _|zu;simp[hz]at h;simp[hz,zA]at h;subst h;have xH:o4 T tv x.s (.lookup t a b ok)=some (cond ok (.tuple #[z,.bool false]) z):=by rcases e1 with⟨rfl,rfl⟩|⟨i,cl,rfl,e1⟩;simp[o4,hd,a1,b1,vD,zC,h2,hi];simp[o4,hd,a1,b1,vD,zC,e1,h2,hi]
    exact fin _ xH (IH _ _ _ ((NT _ _ hz).2 x));simp[hf,zA]at h;subst h;have xH:o4 T tv x.s (.lookup t a b ok)=some (cond ok (.tuple #[v,.bool true]) v):=by rcases e1 with⟨rfl,rfl⟩|⟨i,cl,rfl,e1⟩;simp[o4,hd,a1,b1,vD,zC,h2];simp[o4,hd,a1,b1,vD,zC,e1,h2]
    exact fin _ xH (IH _ _ _ h3)
   cases m with
   |nilm=>simp[aD]at a2;exact key [] [] (.inl ⟨a2,rfl⟩) ⟨rfl,by simp⟩ h|map r=>
    simp only at h;rcases hg:gt x.X.h r with _|bb;simp[hg]at h;cases bb with
    |map es cl=>simp[hg]at h;obtain⟨i,hi,rfl⟩:=xn (x:=x) (by simp[cM,hg,B.st]) a2;obtain⟨_,i',es',e1,e2,e3⟩:=hx.ok r _ hg;rw[hi]at e1;cases e1;exact key es es' (.inr ⟨i,cl,rfl,e2⟩) e3 h
    |_=>simp[hg]at h
   |_=>simp at h
  |_=>simp[hd]at h
 |_=>simp at h
variable{x:Cx}
variable{k:Nat}
variable{b:B}
def oB.mono{y:Cx}(h:oB x k b)(hm:Mo x.X.nx x y)(k8:y.Y k=x.Y k)(hl:∀i c,x.Y k=some i->lk x.s.h i=some c->lk y.s.h i=some c):oB y k b:=by
 have relm:∀{es:V ME}{es':V MapEntry},uE x es es'->uE y es es':=fun{es es'} e3=>⟨e3.1,fun j e he=>by have⟨v,q1,q2,q3,q4⟩:=e3.2 j e he;exact⟨v,q1,hm.ke _ _ (aD.bel _ _ q2) q2,hm.ke _ _ (aD.bel _ _ q3) q3,q4⟩⟩;cases b with
 |row l e=>have⟨k1,i,l',e1,e2,e3⟩:=h;exact⟨k1,i,l',by rw[k8,e1],hl _ _ e1 e2,hm.ke.E e3.bel e3⟩
 |vec l e sz st=>have⟨k1,k2,h3⟩:=h;refine⟨k1,k2,?_⟩;rcases h3 with⟨h3,h4⟩|⟨i,l',e1,e2,e3⟩;exact .inl ⟨h3,by rw[k8,h4]⟩;exact .inr ⟨i,l',by rw[k8,e1],hl _ _ e1 e2,hm.ke.E e3.bel e3⟩
 |map es cl=>have⟨i,es',e1,e2,e3⟩:=h;exact⟨i,es',by rw[k8,e1],hl _ _ e1 e2,relm e3⟩
def oB.not1{i:Nat}(h:oB x k b)(hi:x.Y k=some i){row:V O}{e:TypeId}:lk x.s.h i≠some (.inl (row,e,1)):=by
 intro hl;cases b with
 |row l e'=>have⟨_,i',l',e1,e2,_⟩:=h;rw[hi]at e1;cases e1;rw[hl]at e2;cases e2
 |vec l e' sz st=>have⟨_,_,h3⟩:=h;rcases h3 with⟨_,h4⟩|⟨i',l',e1,e2,_⟩;rw[hi]at h4;cases h4;rw[hi]at e1;cases e1;rw[hl]at e2;cases e2
 |map es cl=>have⟨i',es',e1,e2,_⟩:=h;rw[hi]at e1;cases e1;rw[hl]at e2;cases e2
def step1{y:Cx}(hx:jY x)(K:Nat)(bK:B)(hn:x.X.nx<=y.X.nx)(hK:K<y.X.nx)(xI:∀k,k≠K->gt y.X.h k=gt x.X.h k/\y.Y k=x.Y k)(iC:gt y.X.h K=some bK)
  (lK:(∃b0,gt x.X.h K=some b0/\b0.st<=bK.st/\(b0.st=bK.st->y.Y K=x.Y K/\∀l e sz st,b0=.vec l e sz st->∃l',bK=.vec l' e sz st))\/(gt x.X.h K=none/\x.X.nx<=K)) (A0:∀i b,lk x.s.h i=some b->(∀c,gt x.X.h K=some c->x.Y K≠some i)->lk y.s.h i=some b)
  (tV:∀i,y.Y K=some i->(∃c,gt x.X.h K=some c/\x.Y K=some i)\/x.s.nx<=i) (gW:∀i b,lk y.s.h i=some b->i<y.s.nx) (hB:Mo x.X.nx x y->oB y K bK):Out x y:=by
 have gI:Mo x.X.nx x y:=by refine⟨fun k hk _=>⟨by omega,fun b' cP=>?_⟩,fun i row e hl=>A0 i _ hl fun c hc he=>(hx.ok K c hc).2.not1 he hl⟩;by_cases e:k=K;subst e;rw[iC]at cP;cases cP;rcases lK with⟨b0,h1,h2,h3⟩|⟨_,h2⟩;exact⟨b0,h1,h2,h3⟩;omega;have⟨h1,h2⟩:=xI k e;exact⟨b',by rw[<-h1,cP],zF _,fun _=>⟨h2,fun l e sz st h=>⟨l,h⟩⟩⟩
 have d5:∀k b i c,k≠K->gt x.X.h k=some b->x.Y k=some i->gt x.X.h K=some c->x.Y K≠some i:=fun k b i c hk hb hi hc he=>hk (hx.inj k K b c i hb hc hi he);refine⟨⟨fun k b hb=>?_,fun k k' b b' i hb cP hi kY=>?_,gW⟩,gI,fun F J i b hb=>?_⟩;by_cases e:k=K;subst e;rw[iC]at hb;cases hb;exact⟨hK,hB gI⟩;have⟨h1,h2⟩:=xI k e;rw[h1]at hb;have⟨h3,h4⟩:=hx.ok k b hb;exact⟨by omega,h4.mono gI h2 fun i c hi hl=>A0 i c hl fun d hd=>d5 k b i d e hb hi hd⟩;have own:∀k b i,k≠K->gt y.X.h k=some b->y.Y k=some i->gt x.X.h k=some b/\x.Y k=some i/\i<x.s.nx:=fun k b i e hb hi=>by
  have⟨h1,h2⟩:=xI k e;rw[h1]at hb;rw[h2]at hi;refine⟨hb,hi,?_⟩;have:=(hx.ok k b hb).2;cases b with
  |row l e=>have⟨_,i',l',e1,e2,_⟩:=this;rw[hi]at e1;cases e1;exact hx.bd _ _ e2
  |vec l e' sz st=>have⟨_,_,h3⟩:=this;rcases h3 with⟨_,h4⟩|⟨i',l',e1,e2,_⟩;rw[hi]at h4;cases h4;rw[hi]at e1;cases e1;exact hx.bd _ _ e2
  |map es cl=>have⟨i',es',e1,e2,_⟩:=this;rw[hi]at e1;cases e1;exact hx.bd _ _ e2
 by_cases e:k=K;by_cases e':k'=K;rw[e,e'];exfalso;subst e;have⟨q1,q2,q3⟩:=own k' b' i e' cP kY;rcases tV i hi with⟨c,hc,mV⟩|EB;exact e' (hx.inj k' k b' c i q1 hc q2 mV);omega;by_cases e':k'=K;exfalso;subst e';have⟨q1,q2,q3⟩:=own k b i e hb hi;rcases tV i kY with⟨c,hc,mV⟩|EB;exact e (hx.inj k k' b c i q1 hc q2 mV);omega;have⟨q1,q2,_⟩:=own k b i e hb hi;have⟨q3,q4,_⟩:=own k' b' i e' cP kY;exact hx.inj k k' b b' i q1 q3 q2 q4;have⟨h1,h2⟩:=J i b hb;refine⟨A0 i b h1 fun c hc=>h2 K c hc,fun k c hc hi=>?_⟩;by_cases e:k=K;subst e;rcases tV i hi with⟨d,hd,bF⟩|EB;exact h2 k d hd bF;have:=hx.bd i b h1;omega;have⟨q1,q2⟩:=xI k e;rw[q1]at hc;rw[q2]at hi;exact h2 k c hc hi
def mQ(Y:Nat->M Nat)(k:Nat)(o:M Nat):Nat->M Nat:=fun j=>if j=k then o else Y j
def fk(Y:Nat->M Nat)(k:Nat)(o:M Nat):mQ Y k o k=o:=by simp[mQ]
def F'(Y:Nat->M Nat){j:Nat}(o:M Nat)(h:j≠k):mQ Y k o j=Y j:=by simp[mQ,h]
def U6(hx:jY x):gt x.X.h x.X.nx=none:=by rcases h:gt x.X.h x.X.nx with _|b;rfl;have:=(hx.ok _ b h).1;omega
def aw(hx:jY x)(b:B)(c:lP)(hB:∀y:Cx,y.Y x.X.nx=some x.s.nx->lk y.s.h x.s.nx=some c->Mo x.X.nx x y->oB y x.X.nx b):
  Out x ⟨mQ x.Y x.X.nx (some x.s.nx),newU x.X b,⟨(x.s.nx,c)::x.s.h,x.s.nx+1⟩⟩:=by refine step1 hx x.X.nx b (by simp[newU]) (by simp[newU]) (fun k hk=>⟨by simp[newU,eN,Ne.symm hk],F' _ _ hk⟩) (by simp[newU,eN]) (.inr ⟨U6 hx,zF _⟩) (fun i d hd _=>?_) (fun i hi=>?_) (fun i d hd=>?_) (fun hm=>?_);have:=hx.bd i d hd;simp[n9,show x.s.nx≠i by omega,hd];change mQ _ _ _ _=some i at hi;rw[fk]at hi;cases hi;exact .inr (zF _);simp[n9]at hd;split at hd;show i<x.s.nx+1;omega;exact Nat.lt_succ_of_lt (hx.bd i d hd);exact hB _ (by simp[mQ]) (by simp[n9]) hm
def jd(hx:jY x)(e:TypeId)(sz:Nat)(dU:0<sz):Out x ⟨mQ x.Y x.X.nx none,newU x.X (.vec [] e sz 0),x.s⟩:=by refine step1 hx x.X.nx (.vec [] e sz 0) (by simp[newU]) (by simp[newU]) (fun k hk=>⟨by simp[newU,eN,Ne.symm hk],F' _ _ hk⟩) (by simp[newU,eN]) (.inr ⟨U6 hx,zF _⟩) (fun i d hd _=>hd) (fun i hi=>?_) hx.bd (fun hm=>?_);change mQ _ _ _ _=some i at hi;rw[fk]at hi;cases hi;exact⟨rfl,dU,.inl ⟨rfl,by simp[mQ]⟩⟩
def Nc{c:lP}{st:Nat}(cK:b.st=st){p:M Nat->Prop}(hp:p (some x.s.nx)):Ref ⟨mQ x.Y x.X.nx (some x.s.nx),newU x.X b,⟨(x.s.nx,c)::x.s.h,x.s.nx+1⟩⟩ x.X.nx st p:=by refine⟨by simp[newU],fun b' cP=>?_⟩;simp[newU,eN,if_true,zA]at cP;subst cP;exact⟨Nat.le_of_eq cK.symm,fun _=>by simpa[mQ]using hp⟩
def XY(hx:jY x){K i:Nat}{b0 bK:B}{c:lP}(h0:gt x.X.h K=some b0)(hi:x.Y K=some i){c0:lP}(KF:lk x.s.h i=some c0)(cK:b0.st=bK.st)(hv:∀l e sz st,b0=.vec l e sz st->∃l',bK=.vec l' e sz st)
  (hB:∀y:Cx,y.Y K=some i->lk y.s.h i=some c->Mo x.X.nx x y->oB y K bK):Out x ⟨x.Y,⟨ug x.X.h K bK,x.X.nx⟩,⟨up x.s.h i c,x.s.nx⟩⟩:=by refine step1 hx K bK (zF _) (hx.ok K _ h0).1 (fun k hk=>⟨by simp[R8,Ne.symm hk],rfl⟩) (by simp[R8,h0]) (.inl ⟨b0,h0,Nat.le_of_eq cK,fun _=>⟨rfl,hv⟩⟩) (fun j d hd d5=>?_) (fun j hj=>.inl ⟨b0,h0,hj⟩) (fun j d hd=>?_) (fun hm=>?_);have:i≠j:=fun e=>d5 b0 h0 (by rw[hi,e]);simp[B2,this,hd];simp[B2]at hd;split at hd;rename_i e;subst e;exact hx.bd i _ KF;exact hx.bd j d hd;exact hB _ hi (by simp[B2,KF]) hm
def Gf{zu:V U}{z:V O}(h:bB x zu z)(n:Nat):bB x (w4 zu n) (cC z n):=by induction n with|zero=>exact bB.nil x|succ n ih=>simp[w4,List.replicate_succ,List.flatten_cons,cC];exact h.append ih
def ao{zu:V U}(h:okL zu=true)(n:Nat):okL (w4 zu n)=true:=by induction n with|zero=>rfl|succ n ih=>simp[w4,List.replicate_succ,List.flatten_cons];exact JB h ih
section
variable{T:Tb}{x:Cx}(hx:jY x){tm:V U}{tv:V O}(ht:bB x tm tv)
include hx
def jz{l:V U}{l':V O}(hl:bB x l l')(hk:okL l=true)(e:TypeId):Out x ⟨mQ x.Y x.X.nx (some x.s.nx),newU x.X (.row l e),Rx.newRow x.s l' e 0⟩:=
 aw hx (.row l e) (.inl (l',e,0)) fun y h1 h2 hm=>⟨hk,x.s.nx,l',h1,h2,hm.ke.E hl.bel hl⟩
def jy{l:V U}{l':V O}(hl:bB x l l')(hk:okL l=true)(e:TypeId){sz:Nat}(dU:0<sz):Out x ⟨mQ x.Y x.X.nx (some x.s.nx),newU x.X (.vec l e sz 0),Rx.newRow x.s l' e (sz+2)⟩:=
 aw hx (.vec l e sz 0) (.inl (l',e,sz+2)) fun y h1 h2 hm=>⟨hk,dU,.inr ⟨x.s.nx,l',h1,h2,hm.ke.E hl.bel hl⟩⟩
variable{t:TypeId}
variable{r:U}
variable{X':Sg}
def z7y{p u:U}{pv uv:O}(h:XC T x.X t p u=some (r,X'))(hp:aD x p pv)(hu:aD x u uv):
  ∃v y,Ex T x.s t pv uv=some (v,y.s)/\y.X=X'/\aD y r v/\Out x y:=by
 unfold XC at h;cases p with
 |ptr k st off=>
  simp only at h;rcases hs:cT T t with _|n;simp[hs]at h;simp[hs]at h;rcases hc:xY u with _|cs;simp[hc]at h;simp[hc]at h;have⟨c1,c2⟩:=im hu hc;rcases aZ:Nat.beq cs.length n with _|_;simp[aZ]at h;simp[aZ,zC,c2]at h;rcases dX:cellsOf x.X k st with _|l;simp[dX]at h;simp[dX]at h;obtain⟨i,lv,e,md,q1,rfl,q2,q3,q4,q5,q6⟩:=qoh hx dX hp;have c1':=zee (X:=x.X) (k:=k) c1;have c2':okL (GS x.X k cs)=true:=by rw[VT];exact c2
  rcases hput:qB l off (GS x.X k cs)with _|l1;simp[hput]at h;simp[hput]at h;obtain⟨rv,p1,p2,p3⟩:=wl hput q4 c1';have p4:=p3 q5 c2';have cK:Ex T x.s t (.pointer (some ⟨i,off,none⟩)) uv=some (undef,⟨up x.s.h i (.inl (rv,e,md)),x.s.nx⟩):=by
   have A3:cY x.s i=some (lv,e,md):=by unfold cY;rcases q6 with⟨rfl,_⟩|⟨sz,rfl,_⟩<;>simp[q2]
   simp only[Ex,hs];rw[<-c1.2,aZ];simp[zC,RZ c1 c2,A3,p1]
  rcases q6 with⟨rfl,hg⟩|⟨sz,rfl,hz,hg⟩;simp[M6,hg,zA,zB]at h;have⟨rfl,rfl⟩:=h;exact⟨undef,⟨x.Y,⟨ug x.X.h k (.row l1 e),x.X.nx⟩,⟨up x.s.h i (.inl (rv,e,0)),x.s.nx⟩⟩,cK,rfl,by simp[aD],XY hx hg q1 q2 rfl (by simp) fun y h1 h2 hm=>⟨p4,i,rv,h1,h2,hm.ke.E p2.bel p2⟩⟩;simp[M6,hg,zA,zB]at h;have⟨rfl,rfl⟩:=h;exact⟨undef,⟨x.Y,⟨ug x.X.h k (.vec l1 e sz st),x.X.nx⟩,⟨up x.s.h i (.inl (rv,e,sz+2)),x.s.nx⟩⟩,cK,rfl,by simp[aD],XY hx hg q1 q2 rfl (by rintro l e sz st h;cases h;exact⟨_,rfl⟩) fun y h1 h2 hm=>⟨p4,hz,.inr ⟨i,rv,h1,h2,hm.ke.E p2.bel p2⟩⟩⟩
 |_=>simp at h
def qwg{n:Nat}{ps:V (Nat×U)}{pv:V (Nat×O)}(h:Oi T x.X t n ps=some (r,X'))(hp:XB x ps pv):∃v y,Oh T x.s t n pv=some (v,y.s)/\y.X=X'/\aD y r v/\Out x y:=by
 unfold Oi at h;rcases hd:T.und t with _|d;simp[hd]at h;cases d with
 |slice e=>
  simp only[hd]at h;rcases hi:T.inf e with _|q;simp[hi]at h;obtain⟨sz,by_,z⟩:=q;simp only[hi]at h;rcases h1:Nat.ble (n*sz) 16777216 with _|_;simp[h1]at h;simp only[h1,zC]at h;rcases h2:Nat.ble n 16777216 with _|_;simp[h2]at h;simp only[h2,zC]at h;rcases h3:Nat.beq z.cells.toList.length sz with _|_;simp only[h3,zD]at h;cases h;simp only[h3,zC]at h;rcases h4:qC z.cells.toList with _|zu;simp[h4]at h;simp only[h4]at h;have uI:=(O1 _ _ h4).2 x;rcases h5:uX (fun i=>some (i*sz,sz)) (w4 zu n) ps with _|cs;simp[h5]at h;simp only[h5]at h;rcases h6:okL cs with _|_;simp[h6]at h;simp only[h6,zC,zA,zB]at h;obtain⟨rfl,rfl⟩:=h;obtain⟨rv,f1,f2⟩:=Nz hp (Gf uI n) h5;have gM:n<bY:=by have:=zY h2;unfold bY;omega
  refine⟨.slice (some ⟨x.s.nx,0,none⟩) n n,_,?_,rfl,?_,jz hx f2 h6 e⟩;simp only[Oh,hd,hi,h1,h3,zC,f1,rG gM];simp only[aD];exact⟨rfl,Nc rfl ⟨x.s.nx,rfl,rfl,gM,zF _⟩⟩
 |_=>simp[hd]at h
def z9x{a b:U}{va vb:O}(h:Ka T x.X t a b=some (r,X'))(ha:aD x a va)(hb:aD x b vb):∃v y,Jz T x.s t va vb=some (v,y.s)/\y.X=X'/\aD y r v/\Out x y:=by
 unfold Ka at h;rcases hd:T.und t with _|d;simp[hd]at h;cases d with
 |slice e=>
  cases a with
  |int ka a=>
   cases b with
   |int kb b=>
    simp only[aD]at ha hb;subst ha;subst hb;simp only[hd]at h;rcases hi:T.inf e with _|q;simp[hi]at h;obtain⟨sz,by_,z⟩:=q;simp only[hi]at h;rcases h4:qC z.cells.toList with _|zu;simp[h4]at h;simp only[h4]at h;have uI:=(O1 _ _ h4).2 x;rcases h6:okL zu with _|_;simp[h6]at h;simp only[h6,zC]at h;rcases h3:Nat.beq z.cells.toList.length sz with _|_;simp only[h3,zD]at h;cases h;simp only[h3,zC]at h;split at h;rename_i hc;simp only[zA,zB]at h;obtain⟨rfl,rfl⟩:=h;obtain⟨c1,c2,c3,c4⟩:=hc;have Is:IntKind.i64.wrap a=Int.ofNat a.toNat:=by rw[wrap_i64 (by omega) (by omega)];simp;omega
    have Uh:IntKind.i64.wrap b=Int.ofNat b.toNat:=by rw[wrap_i64 (by omega) (by omega)];simp;omega
    have gM:b.toNat<bY:=by unfold bY;omega
    refine⟨.slice (some ⟨x.s.nx,0,none⟩) a.toNat b.toNat,_,?_,rfl,?_,jz hx (Gf (Mz uI) b.toNat) (ao (by rw[Ew];exact h6) _) e⟩;simp only[Jz,hd,hi,Is,Uh,h3,zC,rG gM,Nat.ble_eq_true_of_le c3,Nat.ble_eq_true_of_le (show a.toNat<=b.toNat by omega)];simp only[aD];exact⟨rfl,Nc rfl ⟨x.s.nx,rfl,rfl,gM,by omega⟩⟩;cases h
   |_=>simp[hd]at h
  |_=>simp[hd]at h
 |_=>simp[hd]at h
end
end Go.Vx
