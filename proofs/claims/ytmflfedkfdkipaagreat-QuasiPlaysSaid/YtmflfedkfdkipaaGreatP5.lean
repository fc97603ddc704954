import Derived.IntWalk
import Derived.Test.YtmflfedkfdkipaaGreatP4
set_option linter.all false
namespace Go.Rx
open Go
def WP(P:DC)(c:Code)(tm:X Value)(s:S)(Q:Exit->X Value->S->Prop):Prop :=
 ∀m w a,gD m s w->AF m s.nx tm a->a.defers=[]->
  c.wp P (fun e a' w'=>∃m' tm' s',Q e tm' s'/\bT m s w m' s' w'/\AF m' s'.nx tm' a'/\a'.defers=[]) a w
def Less(s s':S):Prop:=s.nx<=s'.nx/\∀i b,lk s'.h i=some b->lk s.h i=some b
def bT.less{m:Nm}{s s':S}{w:Nr}(h:gD m s w)(hl:Less s s'):bT m s w m s' w:=by refine⟨aN.refl _ _,hl.1,fun m' ha=>?_,?_,fun _ _ _=>rfl,zF _,rfl,rfl,rfl⟩;have hf:=h m' (ha.mono hl.1);exact⟨fun i b hb=>hf.ok i b (hl.2 i b hb),fun i j b c hb hc=>hf.inj i j b c (hl.2 i b hb) (hl.2 j c hc),fun i b hb=>Nat.lt_of_lt_of_le (hf.bd i b (hl.2 i b hb)) hl.1⟩;rintro k ⟨j,d,hd,ho,rfl⟩;exact .inl ⟨j,d,hl.2 j d hd,ho,rfl⟩
def oZ{x:Int}(h1 : -9223372036854775808<=x)(h2:x<=9223372036854775807):IntKind.i64.wrap x=x:=IntWalk.i64_in x ⟨h1,h2⟩
section
variable{P:DC}{Q:Exit->X Value->S->Prop}{tm:X Value}{s:S}
def WP.exit{id:Nat}(h:Q (.exit id) tm s):WP P (.exit id) tm s Q:=fun m _ _ hf ha hd=>wp_exit ⟨m,tm,s,h,bT.refl hf,ha,hd⟩
def qv6(id:Nat)(Q:Exit->X Value->S->Prop):Exit->X Value->S->Prop
 |.exit id',tm,s=>if id'=id then Q .normal tm s else Q (.exit id') tm s|e,tm,s=>Q e tm s
def WP.block{id:Nat}{c:Code}(h:WP P c tm s (qv6 id Q)):WP P (.block id c) tm s Q:=fun m w a hf ha hd=>by
 refine wp_block (wp_mono (h m w a hf ha hd) ?_);rintro e a' w' ⟨m',tm',s',h1,h2,h3,h4⟩;cases e with
 |exit id'=>simp only[Exit.inBlock];simp only[qv6]at h1;by_cases jX:id'=id;simp only[jX,if_true]at h1 ⊢;exact⟨m',tm',s',h1,h2,h3,h4⟩;simp only[jX,if_false]at h1 ⊢;exact⟨m',tm',s',h1,h2,h3,h4⟩|_=>exact⟨m',tm',s',h1,h2,h3,h4⟩
variable{T:Tb}(hT:j0 P T){call:F9}(hC:Gv P call)
include hT hC
end
def p0(tm:X Value)(op:Op):V Value :=
 match op with
 |.move x=>evalO tm x|.assign x=>evalO tm x
 |.pick c a b=>match evalO tm c with
  |some (.bool true)=>evalO tm a|some (.bool false)=>evalO tm b
  |_=>none
 |.nilCheck x=>match evalO tm x with
  |some (.pointer (some a))=>some (.pointer (some a))|_=>none
 |.binOp op _ x y _=>match evalO tm x,evalO tm y with
  |some (.int k a),some (.int k' b)=>kB op k a k' b|_,_=>none
 |.unOp op _ x=>match evalO tm x with
  |some a=>QL op a|none=>none
 |.makeFunc fn first cap=>match oN tm first.toList,oN tm cap.toList with
  |some a,some b=>some (.func fn a.toArray b.toArray)|_,_=>none
 |.extract x i=>match evalO tm x with
  |some a=>Hr a i|none=>none
 |.call c=>match c.callee with
  |.builtin .max=>match oN tm c.args.toList with
   |some (x::l)=>wC R8 x l|_=>none
  |.builtin .min=>match oN tm c.args.toList with
   |some (x::l)=>wC R7 x l|_=>none
  |_=>none
 |_=>none
section
variable{T:Tb}{call:F9}{aA rest:X Oper}{o:Oper}{tm:X Value}{s:S}{K:X Value->S->Prop}
end
section
variable{P:DC}{Q:Exit->X Value->S->Prop}{tm:X Value}{s:S}{T:Tb}(hT:j0 P T){call:F9}(hC:Gv P call)
include hT hC
end
end Go.Rx
namespace Go.Vx
open Go Go.Rx
inductive U where
 |junk
 |bool (b:Bool)
 |int (k:IntKind) (n:Int)
 |str (s:List UInt8)
 |nilp
 |ptr (k st off:Nat)
 |iptr (l:List U)
 |nils
 |sl (k off n c:Nat)
 |vl (k st off n:Nat)
 |isl (t:Bool) (l:List (List U))
 |nilm
 |map (k:Nat)
 |fn (f:Fn) (first cap:List U)
 |nilf
 |nili
 |agg (l:List U)
 |tup (l:List U)
 deriving Inhabited
def okC:U->PE
 |.junk=>false|.agg _=>false
 |.tup _=>false|_=>true
def okL:X U->PE
 |[]=>true|u::l=>cond (okC u) (okL l) false
def KW(l:X U):okL l=true↔∀u∈l,okC u=true:=by induction l with|nil=>simp[okL]|cons u l ih=>cases h:okC u<;>simp[okL,h,ih]
structure ME where
 key:U
 val:U
 born:Nat
inductive B where
 |row (l:List U) (e:TypeId)
 |vec (l:List U) (e:TypeId) (sz st:Nat)
 |map (es:List ME) (cl:Nat)
structure Sg where
 h:X (Nat×B)
 nx:Nat
def gt:X (Nat×B)->Nat->V B
 |[],_=>none|(j,b)::h,i=>cond (Nat.beq j i) (some b) (gt h i)
def ug:X (Nat×B)->Nat->B->X (Nat×B)
 |[],_,_=>[]|(j,b)::h,i,c=>cond (Nat.beq j i) ((j,c)::h) ((j,b)::ug h i c)
def rg:X (Nat×B)->Nat->X (Nat×B)
 |[],_=>[]|(j,b)::h,i=>cond (Nat.beq j i) (rg h i) ((j,b)::rg h i)
def aP(j:Nat)(b:B)(h:X (Nat×B))(i:Nat):gt ((j,b)::h) i=if j=i then some b else gt h i:=by simp only[gt,beq_eq];by_cases e:j=i<;>simp[e]
def bS(h:X (Nat×B))(i:Nat)(c:B)(j:Nat):gt (ug h i c) j=if i=j then(gt h i).map (fun _=>c)else gt h j:=by induction h with|nil=>simp[ug,gt]|cons x h ih=>obtain⟨k,b⟩:=x;simp only[ug,beq_eq];by_cases e:k=i;subst e;simp only[yC,zC,aP];by_cases e2:k=j<;>simp[e2];simp only[e,yB,zD,aP,ih];by_cases e2:i=j;subst e2;simp[e];by_cases e3:k=j<;>simp[e2,e3]
def gt_rg(h:X (Nat×B))(i j:Nat):gt (rg h i) j=if i=j then none else gt h j:=by induction h with|nil=>simp[rg,gt]|cons x h ih=>obtain⟨k,b⟩:=x;simp only[rg,beq_eq];by_cases e:k=i;subst e;simp only[yC,zC,aP,ih];by_cases e2:k=j<;>simp[e2];simp only[e,yB,zD,aP,ih];by_cases e2:i=j;subst e2;simp[e];by_cases e3:k=j<;>simp[e2,e3]
def B.st:B->Nat
 |.vec _ _ _ st=>st|_=>0
structure Cx where
 I:Nat->V Nat
 Y:Sg
 s:S
def Ref(x:Cx)(k st:Nat)(p:V Nat->Prop):Prop:=k<x.Y.nx/\∀b,gt x.Y.h k=some b->st<=b.st/\(st=b.st->p (x.I k))
def K9(off n:Nat)(v:Value)(sz:Nat):V Nat->Prop
 |none=>off=0/\n=0/\∃o,v=.slice o 0 0/\∀a,o=some a->a.spot=none|some i=>(0<off/\n=0/\∃a c,v=.slice (some a) 0 c/\a.spot=none)\/v=.slice (some ⟨i,off*sz,none⟩) n (cV+off)
mutual
def aC(x:Cx):U->Value->Prop
 |.junk,_=>True|.bool b,v=>v=.bool b
 |.int k n,v=>v=.int k n|.str l,v=>v=.string ⟨⟨l⟩⟩
 |.nilp,v=>v=.pointer none|.ptr k st off,v=>v.oneCell'=true/\Ref x k st fun o=>∃i,o=some i/\v=.pointer (some ⟨i,off,none⟩)
 |.iptr l,v=>∃i off row e,v=.pointer (some ⟨i,off,none⟩)/\lk x.s.h i=some (.inl (row,e,1))/\c9 x l (row.drop off)/\okL l=true|.nils,v=>v=.slice none 0 0
 |.sl k off n c,v=>v.oneCell'=true/\Ref x k 0 fun o=>∃i,o=some i/\v=.slice (some ⟨i,off,none⟩) n c/\c<cV/\n<=c
 |.vl k st off n,v=>v.oneCell'=true/\k<x.Y.nx/\∀b,gt x.Y.h k=some b->st<=b.st/\(st=b.st->∃l e sz,b=.vec l e sz st/\K9 off n v sz (x.I k))|.isl t l,v=>(l=[]/\(v=.slice none 0 0\/∃r,v=.chan (some r)))\/∃i off c,v=.slice (some ⟨i,off,none⟩) l.length c/\(t=true->c=l.length/\c<cV)/\
   (l=[]\/∃row e sz,lk x.s.h i=some (.inl (row,e,1))/\gY x sz l (row.drop off)/\ ((c<cV/\l.length<=c)\/(cV<=c/\e=sz+1/\0<sz/\off=cT c*sz/\off+l.length*sz<=row.length)))
 |.nilm,v=>v=.map none|.map k,v=>v.oneCell'=true/\Ref x k 0 fun o=>∃i,o=some i/\v=.map (some i)
 |.fn f a b,v=>∃va vb,v=.func f ⟨va⟩ ⟨vb⟩/\c9 x a va/\a.length=va.length/\c9 x b vb/\b.length=vb.length|.nilf,v=>v=.nilFunc
 |.nili,v=>v=.nilIface|.agg l,v=>∃vs,v=.agg ⟨vs⟩/\c9 x l vs/\l.length=vs.length/\okL l=true
 |.tup l,v=>∃vs,v=.tuple ⟨vs⟩/\c9 x l vs/\l.length=vs.length
def c9(x:Cx):X U->X Value->Prop
 |[],_=>True|u::us,vs=>match vs with
  |[]=>False|v::vs=>aC x u v/\c9 x us vs
def gY(x:Cx)(sz:Nat):X (X U)->X Value->Prop
 |[],_=>True|c::cs,vs=>c.length=sz/\okL c=true/\c9 x c vs/\gY x sz cs (vs.drop sz)
end
mutual
def aT(n:Nat):U->Prop
 |.ptr k _ _=>k<n|.sl k _ _ _=>k<n
 |.vl k _ _ _=>k<n|.map k=>k<n
 |.iptr l=>aG n l|.isl _ l=>kJ n l
 |.fn _ a b=>aG n a/\aG n b|.agg l=>aG n l
 |.tup l=>aG n l|_=>True
def aG(n:Nat):X U->Prop
 |[]=>True|u::us=>aT n u/\aG n us
def kJ(n:Nat):X (X U)->Prop
 |[]=>True|c::cs=>aG n c/\kJ n cs
end
def H7(x:Cx):∀(l:X U)(vs:X Value),c9 x l vs↔∀(i:Nat)(u:U),l[i]? = some u->∃v,vs[i]? = some v/\aC x u v
 |[],vs=>by simp[c9]
 |u::us,[]=>by simp only[c9,false_iff];intro h;obtain⟨v,hv,_⟩:=h 0 u rfl;simp at hv
 |u::us,v::vs=>by
  simp only[c9,H7 x us vs];constructor;rintro⟨h1,h2⟩ i w hi;cases i with
  |zero=>simp at hi;subst hi;exact⟨v,rfl,h1⟩|succ i=>simp at hi;simpa using h2 i w hi
  intro h;refine⟨?_,fun i w hi=>by simpa using h (i+1) w (by simpa using hi)⟩;obtain⟨v',h1,h2⟩:=h 0 u rfl;simp at h1;subst h1;exact h2
def vG(n:Nat):∀l:X U,aG n l↔∀u∈l,aT n u
 |[]=>by simp[aG]
 |u::us=>by simp[aG,vG n us]
def Hu(n:Nat):∀l:X (X U),kJ n l↔∀c∈l,aG n c
 |[]=>by simp[kJ]
 |u::us=>by simp[kJ,Hu n us]
structure Mo(n:Nat)(x y:Cx):Prop where
 ref:∀k,k<n->k<x.Y.nx->k<y.Y.nx/\∀b',gt y.Y.h k=some b'->∃b,gt x.Y.h k=some b/\b.st<=b'.st/\(b.st=b'.st->y.I k=x.I k/\∀l e sz st,b=.vec l e sz st->∃l',b'=.vec l' e sz st)
 imm:∀i row e,lk x.s.h i=some (.inl (row,e,1))->lk y.s.h i=some (.inl (row,e,1))
variable{n:Nat}
variable{x:Cx}
variable{y:Cx}
def Mo.ref'(h:Mo n x y){k st:Nat}{p:V Nat->Prop}(hk:k<n)(hr:Ref x k st p):Ref y k st p:=by
 obtain⟨h1,h2⟩:=hr;obtain⟨g1,g2⟩:=h.ref k hk h1;refine⟨g1,fun b' cK=>?_⟩;obtain⟨b,e1,e2,e3⟩:=g2 b' cK;obtain⟨e4,e5⟩:=h2 b e1;refine⟨Nat.le_trans e4 e2,fun e=>?_⟩;have:b.st=b'.st:=by omega
 rw[(e3 this).1];exact e5 qq0
mutual
def aC.mono{n:Nat}{x y:Cx}(h:Mo n x y):(u:U)->(v:Value)->aT n u->aC x u v->aC y u v
 |.junk,v,_,_=>by simp[aC]
 |.bool b,v,_,hr=>by simpa[aC]using hr
 |.int k z,v,_,hr=>by simpa[aC]using hr
 |.str l,v,_,hr=>by simpa[aC]using hr
 |.nilp,v,_,hr=>by simpa[aC]using hr
 |.ptr k st off,v,hb,hr=>by simp only[aC]at*;exact⟨hr.1,h.ref' (by simpa[aT]using hb) hr.2⟩
 |.iptr l,v,hb,hr=>by simp only[aC]at*;obtain⟨i,off,row,e,h1,h2,h3,h4⟩:=hr;exact⟨i,off,row,e,h1,h.imm _ _ _ h2,c9.mono h l _ (by simpa[aT]using hb) h3,h4⟩
 |.nils,v,_,hr=>by simpa[aC]using hr
 |.sl k off m c,v,hb,hr=>by simp only[aC]at*;exact⟨hr.1,h.ref' (by simpa[aT]using hb) hr.2⟩
 |.vl k st off m,v,hb,hr=>by
  simp only[aC]at*;obtain⟨h0,h1,h2⟩:=hr;obtain⟨g1,g2⟩:=h.ref k (by simpa[aT]using hb) h1;refine⟨h0,g1,fun b' cK=>?_⟩;obtain⟨b,e1,e2,e3⟩:=g2 b' cK;obtain⟨e4,e5⟩:=h2 b e1;refine⟨Nat.le_trans e4 e2,fun e=>?_⟩;have e6:b.st=b'.st:=by omega
  obtain⟨l,e',sz,e7,e8⟩:=e5 qq0;obtain⟨e9,e10⟩:=e3 e6;obtain⟨l',e11⟩:=e10 _ _ _ _ e7;rw[e9];exact⟨l',e',sz,e11,e8⟩
 |.isl t l,v,hb,hr=>by simp only[aC]at*;rcases hr with hr |⟨i,off,c,h1,h2,h3⟩;exact .inl hr;refine .inr ⟨i,off,c,h1,h2,?_⟩;rcases h3 with h3 |⟨row,e,sz,g1,g2,g3⟩;exact .inl h3;exact .inr ⟨row,e,sz,h.imm _ _ _ g1,gY.mono h l _ (by simpa[aT]using hb) g2,g3⟩
 |.nilm,v,_,hr=>by simpa[aC]using hr
 |.map k,v,hb,hr=>by simp only[aC]at*;exact⟨hr.1,h.ref' (by simpa[aT]using hb) hr.2⟩
 |.fn f a b,v,hb,hr=>by simp only[aC]at*;obtain⟨va,vb,h1,h2,h3,h4,h5⟩:=hr;simp only[aT]at hb;exact⟨va,vb,h1,c9.mono h a _ hb.1 h2,h3,c9.mono h b _ hb.2 h4,h5⟩
 |.nilf,v,_,hr=>by simpa[aC]using hr
 |.nili,v,_,hr=>by simpa[aC]using hr
 |.agg l,v,hb,hr=>by simp only[aC]at*;obtain⟨vs,h1,h2,h3⟩:=hr;exact⟨vs,h1,c9.mono h l _ (by simpa[aT]using hb) h2,h3⟩
 |.tup l,v,hb,hr=>by simp only[aC]at*;obtain⟨vs,h1,h2,h3⟩:=hr;exact⟨vs,h1,c9.mono h l _ (by simpa[aT]using hb) h2,h3⟩
def c9.mono{n:Nat}{x y:Cx}(h:Mo n x y):(l:X U)->(vs:X Value)->aG n l->c9 x l vs->c9 y l vs
 |[],_,_,_=>by simp[c9]
 |u::us,[],_,hr=>by simp[c9]at hr
 |u::us,v::vs,hb,hr=>by simp only[c9,aG]at*;exact⟨aC.mono h u v hb.1 hr.1,c9.mono h us vs hb.2 hr.2⟩
def gY.mono{n sz:Nat}{x y:Cx}(h:Mo n x y):(l:X (X U))->(vs:X Value)->kJ n l->gY x sz l vs->gY y sz l vs
 |[],_,_,_=>by simp[gY]
 |c::cs,vs,hb,hr=>by simp only[gY,kJ]at*;exact⟨hr.1,hr.2.1,c9.mono h c vs hb.1 hr.2.2.1,gY.mono h cs _ hb.2 hr.2.2.2⟩
end
mutual
def aC.bel{x:Cx}:(u:U)->(v:Value)->aC x u v->aT x.Y.nx u
 |.ptr k st off,v,hr=>by simp only[aC,aT]at*;exact hr.2.1
 |.sl k off m c,v,hr=>by simp only[aC,aT]at*;exact hr.2.1
 |.vl k st off m,v,hr=>by simp only[aC,aT]at*;exact hr.2.1
 |.map k,v,hr=>by simp only[aC,aT]at*;exact hr.2.1
 |.iptr l,v,hr=>by simp only[aC,aT]at*;obtain⟨i,off,row,e,h1,h2,h3,_⟩:=hr;exact c9.bel l _ h3
 |.isl t l,v,hr=>by simp only[aC,aT]at*;rcases hr with⟨rfl,_⟩|⟨i,off,c,h1,h2,h3⟩;simp[kJ];rcases h3 with rfl |⟨row,e,sz,g1,g2,_⟩;simp[kJ];exact gY.bel l _ g2
 |.fn f a b,v,hr=>by simp only[aC,aT]at*;obtain⟨va,vb,h1,h2,h3,h4,h5⟩:=hr;exact⟨c9.bel a _ h2,c9.bel b _ h4⟩
 |.agg l,v,hr=>by simp only[aC,aT]at*;obtain⟨vs,h1,h2,h3⟩:=hr;exact c9.bel l _ h2
 |.tup l,v,hr=>by simp only[aC,aT]at*;obtain⟨vs,h1,h2,h3⟩:=hr;exact c9.bel l _ h2
 |.junk,_,_=>by simp[aT]
 |.bool _,_,_=>by simp[aT]
 |.int _ _,_,_=>by simp[aT]
 |.str _,_,_=>by simp[aT]
 |.nilp,_,_=>by simp[aT]
 |.nils,_,_=>by simp[aT]
 |.nilm,_,_=>by simp[aT]
 |.nilf,_,_=>by simp[aT]
 |.nili,_,_=>by simp[aT]
def c9.bel{x:Cx}:(l:X U)->(vs:X Value)->c9 x l vs->aG x.Y.nx l
 |[],_,_=>by simp[aG]
 |u::us,[],hr=>by simp[c9]at hr
 |u::us,v::vs,hr=>by simp only[c9,aG]at*;exact⟨aC.bel u v hr.1,c9.bel us vs hr.2⟩
def gY.bel{x:Cx}{sz:Nat}:(l:X (X U))->(vs:X Value)->gY x sz l vs->kJ x.Y.nx l
 |[],_,_=>by simp[kJ]
 |c::cs,vs,hr=>by simp only[gY,kJ]at*;exact⟨c9.bel c vs hr.2.2.1,gY.bel cs _ hr.2.2.2⟩
end
def bA(x:Cx)(l:X U)(vs:X Value):Prop:=c9 x l vs/\l.length=vs.length
variable{l:X U}
variable{vs:X Value}
variable{u:U}
def bA.get(h:bA x l vs){i:Nat}(hu:l[i]? = some u):∃v,vs[i]? = some v/\aC x u v:=(H7 x l vs).1 h.1 i u hu
def bA.mk'(hl:l.length=vs.length)(h:∀(i:Nat)(u:U),l[i]? = some u->∃v,vs[i]? = some v/\aC x u v):bA x l vs:=⟨(H7 x l vs).2 h,hl⟩
def bA.nil(x:Cx):bA x [] []:=⟨by simp[c9],rfl⟩
def bA.cons{v:Value}(h:aC x u v)(h':bA x l vs):bA x (u::l) (v::vs):=⟨by simp[c9,h,h'.1],by simp[h'.2]⟩
def bA.inv(h:bA x (u::l) vs):∃v sS,vs=v::sS/\aC x u v/\bA x l sS:=by obtain⟨h1,h2⟩:=h;rcases vs with _|⟨v,vs⟩;simp at h2;simp only[c9]at h1;exact⟨v,vs,rfl,h1.1,h1.2,by simpa using h2⟩
def bA.nil_inv(h:bA x [] vs):vs=[]:=by have:=h.2;simpa using this.symm
def bA.append{a b:X U}{va vb:X Value}(h:bA x a va)(h':bA x b vb):bA x (a++b) (va++vb):=by induction a generalizing va with|nil=>rw[h.nil_inv];exact h'|cons u a ih=>obtain⟨v,vs,rfl,h1,h2⟩:=h.inv;exact bA.cons h1 (ih h2)
def bA.drop{x:Cx}{a:X U}{va:X Value}(h:bA x a va)(n:Nat):bA x (a.drop n) (va.drop n):=by refine bA.mk' (by simp[h.2]) fun i u hu=>?_;rw[List.getElem?_drop]at hu ⊢;exact h.get hu
def bA.take{x:Cx}{a:X U}{va:X Value}(h:bA x a va)(n:Nat):bA x (a.take n) (va.take n):=by refine bA.mk' (by simp[h.2]) fun i u hu=>?_;rw[List.getElem?_take]at hu ⊢;split at hu;rename_i aE;simp only[aE,if_true];exact h.get hu;cases hu
def bA.set{x:Cx}{a:X U}{va:X Value}(h:bA x a va)(n:Nat){u:U}{v:Value}(hu:aC x u v):bA x (a.set n u) (va.set n v):=by refine bA.mk' (by simp[h.2]) fun i w hw=>?_;rw[List.getElem?_set]at hw ⊢;split at hw;split at hw;cases hw;rename_i h1 h2;subst h1;rw[h.2]at h2;simp[h2,hu];cases hw;rename_i cR;simp only[cR,if_false];exact h.get hw
def bA.mono{n:Nat}{x y:Cx}(h:Mo n x y){l:X U}{vs:X Value}(hb:aG n l)(hr:bA x l vs):bA y l vs:=⟨c9.mono h l vs hb hr.1,hr.2⟩
def c9.takeE(h:c9 x l vs):bA x l (vs.take l.length):=by
 refine bA.mk' ?_ fun i u hu=>?_;rcases Nat.lt_or_ge vs.length l.length with aE |IK
 have hu:l[vs.length]? = some l[vs.length]:=by simp[aE]
 obtain⟨v,hv,_⟩:=(H7 x l vs).1 h _ _ hu;simp at hv;simp;omega;obtain⟨v,hv,hr⟩:=(H7 x l vs).1 h i u hu;have:i<l.length:=(zG.1 hu).1;exact⟨v,by rw[List.getElem?_take];simp[this,hv],hr⟩
def c9.len(h:c9 x l vs):l.length<=vs.length:=by have:=h.takeE.2;rw[List.length_take]at this;omega
def c9.drop{x:Cx}{l:X U}{vs:X Value}(h:c9 x l vs)(n:Nat):c9 x (l.drop n) (vs.drop n):=by rw[H7]at*;intro i u hu;rw[List.getElem?_drop]at hu ⊢;exact h _ _ hu
def w8(x:Cx)(es:X ME)(vs:X MapEntry):Prop:=es.length=vs.length/\∀(i:Nat)(e:ME),es[i]? = some e->∃v:MapEntry,vs[i]? = some v/\aC x e.key v.key/\aC x e.val v.val/\v.born=e.born
def nO(x:Cx)(k:Nat):B->Prop
 |.row l e=>okL l=true/\∃i l',x.I k=some i/\lk x.s.h i=some (.inl (l',e,0))/\bA x l l'|.vec l e sz _=>okL l=true/\0<sz/\(l=[]/\x.I k=none\/∃i l',x.I k=some i/\lk x.s.h i=some (.inl (l',e,sz+2))/\bA x l l')
 |.map es cl=>∃i es',x.I k=some i/\lk x.s.h i=some (.inr (es',cl))/\w8 x es es'
structure iZ(x:Cx):Prop where
 ok:∀k b,gt x.Y.h k=some b->k<x.Y.nx/\nO x k b
 inj:∀k k' b b' i,gt x.Y.h k=some b->gt x.Y.h k'=some b'->x.I k=some i->x.I k'=some i->k=k'
 bd:∀i b,lk x.s.h i=some b->i<x.s.nx
def Fr(F:Nat->mI->Prop)(x:Cx):Prop:=∀i b,F i b->lk x.s.h i=some b/\∀k c,gt x.Y.h k=some c->x.I k≠some i
def Ke(n:Nat)(x y:Cx):Prop:=∀u v,aT n u->aC x u v->aC y u v
def Ke.refl(n:Nat)(x:Cx):Ke n x x:=fun _ _ _ h=>h
def Ke.trans{z:Cx}(h:Ke n x y)(h':Ke n y z):Ke n x z:=fun u v hb hr=>h' u v hb (h u v hb hr)
mutual
def aT.le{n k:Nat}(h:n<=k):(u:U)->aT n u->aT k u
 |.ptr a _ _,hb=>by simp only[aT]at*;omega
 |.sl a _ _ _,hb=>by simp only[aT]at*;omega
 |.vl a _ _ _,hb=>by simp only[aT]at*;omega
 |.map a,hb=>by simp only[aT]at*;omega
 |.iptr l,hb=>by simp only[aT]at*;exact aG.le h l hb
 |.isl t l,hb=>by simp only[aT]at*;exact kJ.le h l hb
 |.fn f a b,hb=>by simp only[aT]at*;exact⟨aG.le h a hb.1,aG.le h b hb.2⟩
 |.agg l,hb=>by simp only[aT]at*;exact aG.le h l hb
 |.tup l,hb=>by simp only[aT]at*;exact aG.le h l hb
 |.junk,_=>by simp[aT]
 |.bool _,_=>by simp[aT]
 |.int _ _,_=>by simp[aT]
 |.str _,_=>by simp[aT]
 |.nilp,_=>by simp[aT]
 |.nils,_=>by simp[aT]
 |.nilm,_=>by simp[aT]
 |.nilf,_=>by simp[aT]
 |.nili,_=>by simp[aT]
def aG.le{n k:Nat}(h:n<=k):(l:X U)->aG n l->aG k l
 |[],_=>by simp[aG]
 |u::us,hb=>by simp only[aG]at*;exact⟨aT.le h u hb.1,aG.le h us hb.2⟩
def kJ.le{n k:Nat}(h:n<=k):(l:X (X U))->kJ n l->kJ k l
 |[],_=>by simp[kJ]
 |u::us,hb=>by simp only[kJ]at*;exact⟨aG.le h u hb.1,kJ.le h us hb.2⟩
end
def Ke.le{n k:Nat}{x y:Cx}(h:Ke k x y)(hk:n<=k):Ke n x y:=fun u v hb hr=>h u v (aT.le hk u hb) hr
def Mo.ke(h:Mo n x y):Ke n x y:=fun u v hb hr=>aC.mono h u v hb hr
def Ke.E(h:Ke n x y)(hb:aG n l)(hr:bA x l vs):bA y l vs :=
 bA.mk' hr.2 fun i u hu=>by obtain⟨v,h1,h2⟩:=hr.get hu;exact⟨v,h1,h u v ((vG n l).1 hb u (zX hu)) h2⟩
def bA.bel{x:Cx}{l:X U}{vs:X Value}(hr:bA x l vs):aG x.Y.nx l:=c9.bel l vs hr.1
mutual
def toV:U->V Value
 |.bool b=>some (.bool b)|.int k n=>some (.int k n)
 |.str s=>some (.string ⟨⟨s⟩⟩)|.nilp=>some (.pointer none)
 |.nils=>some (.slice none 0 0)|.nilm=>some (.map none)
 |.nilf=>some .nilFunc|.nili=>some .nilIface
 |.agg l=>cond (okL l) (match lL l with
  |some vs=>some (.agg ⟨vs⟩)|none=>none) none
 |_=>none
def lL:X U->V (X Value)
 |[]=>some []|u::l=>match toV u with
  |some v=>(match lL l with
   |some vs=>some (v::vs)|none=>none)
  |none=>none
end
mutual
def jP:Value->V U
 |.bool b=>some (.bool b)|.int k n=>some (.int k n)
 |.string s=>some (.str s.data.toList)|.pointer none=>some .nilp
 |.slice none n c=>match n,c with
  |0,0=>some .nils|_,_=>none
 |.map none=>some .nilm|.nilFunc=>some .nilf
 |.nilIface=>some .nili|.agg ⟨l⟩=>match pM l with
  |some us=>cond (okL us) (some (.agg us)) none|none=>none
 |_=>none
def pM:X Value->V (X U)
 |[]=>some []|v::l=>match jP v with
  |some u=>(match pM l with
   |some us=>some (u::us)|none=>none)
  |none=>none
end
def vC:U->V (X U)
 |.junk=>none|.tup _=>none
 |.agg l=>some l|u=>some [u]
def cG(tm:X U):Xt->V U
 |.tmp t=>nth tm t|.const v=>jP v
 |.func f=>some (.fn (.func f) [] [])|.global _=>none
def oC(tm:X U):X Xt->V (X U)
 |[]=>some []|x::l=>match cG tm x with
  |some v=>(match oC tm l with
   |some r=>some (v::r)|none=>none)
  |none=>none
def yM(tm:X U):X (Nat×Xt)->V (X (Nat×U))
 |[]=>some []|(i,x)::l=>match cG tm x with
  |some v=>(match yM tm l with
   |some r=>some ((i,v)::r)|none=>none)
  |none=>none
def AP(tm:X U):V Xt->V (V Value)
 |none=>some none|some x=>match cG tm x with
  |some (.int k n)=>some (some (.int k n))|_=>none
def live(Y:Sg)(k st:Nat):PE:=match gt Y.h k with
 |some b=>Nat.beq b.st st|none=>false
def cellsOf(Y:Sg)(k st:Nat):V (X U):=match gt Y.h k with
 |some (.row l _)=>cond (Nat.beq 0 st) (some l) none|some (.vec l _ _ bJ)=>cond (Nat.beq bJ st) (some l) none
 |_=>none
def rowOf(Y:Sg)(k:Nat):V (X U):=match gt Y.h k with
 |some (.row l _)=>some l|_=>none
def oA(Y:Sg)(k st:Nat):V (X U×TypeId×Nat):=match gt Y.h k with
 |some (.vec l e sz bJ)=>cond (Nat.beq bJ st) (some (l,e,sz)) none|_=>none
def MY(Y:Sg)(k:Nat)(l:X U):V Sg:=match gt Y.h k with
 |some (.row _ e)=>some ⟨ug Y.h k (.row l e),Y.nx⟩|some (.vec _ e sz st)=>some ⟨ug Y.h k (.vec l e sz st),Y.nx⟩
 |_=>none
def kY(l:X U)(off n:Nat):V (X U):=if off+n<=l.length then some ((l.drop off).take n)else none
def qT(l:X U)(off:Nat)(vs:X U):V (X U):=if off+vs.length<=l.length then some (l.take off++(vs++l.drop (off+vs.length)))else none
def qw(T:Tb)(t:TypeId)(cs:X U)(off:Nat):V U :=
 match T.und t with
 |none=>none|some d=>cond (qE d) (match cD T t with
   |some n=>some (.agg ((cs.drop off).take n))|none=>none) (nth cs off)
def qY(place:Nat->V (Nat×Nat))(cells:X U):X (Nat×U)->V (X U)
 |[]=>some cells|(i,v)::rest=>match place i with
  |none=>none|some (off,size)=>match vC v with
   |none=>none|some cs=>cond (Nat.beq cs.length size) (match qT cells off cs with
    |some c=>qY place c rest|none=>none) none
def Gt(T:Tb)(t:TypeId)(ps:X (Nat×U)):V U :=
 match T.inf t with
 |none=>none|some (_,_,z)=>match pM z.cells.toList with
  |none=>none|some zu=>match T.und t with
   |some (.struct fs)=>cond (H4 T fs.toList) (match qY (KZ T fs.toList) zu ps with
    |some cs=>cond (okL cs) (some (.agg cs)) none|none=>none) none
   |some (.array _ e)=>(match cD T e with
    |none=>none|some n=>match qY (fun i=>some (i*n,n)) zu ps with
     |some cs=>cond (okL cs) (some (.agg cs)) none|none=>none)
   |_=>none
def g1(f:Value->V Value)(u:U):V U:=match toV u with
 |some v=>(match f v with
  |some r=>jP r|none=>none)
 |none=>none
def g2(f:Value->Value->V Value)(a b:U):V U:=match toV a with
 |some x=>(match toV b with
  |some y=>(match f x y with
   |some r=>jP r|none=>none)
  |none=>none)
 |none=>none
def gK(Y:Sg):U->Nat
 |.ptr k st _=>cond (live Y k st) 1 0|.iptr _=>1
 |.sl k _ _ _=>cond (live Y k 0) 2 0|.vl k st _ (_+1)=>cond (live Y k st) 2 0
 |.isl _ (_::_)=>2|.map k=>cond (live Y k 0) 3 0
 |_=>0
def KX:U->Nat
 |.nilp=>1|.nils=>2
 |.nilm=>3|_=>0
def yG(T:Tb)(t:TypeId):Nat:=match T.und t with
 |some (.pointer _)=>1|some (.slice _)=>2
 |some (.map _ _)=>3|_=>0
def EK:BinOp->V U
 |.eql=>some (.bool false)|.neq=>some (.bool true)
 |_=>none
def Gp(T:Tb)(Y:Sg)(op:BinOp)(t:TypeId)(x y:U):V U :=
 cond (Nat.beq (yG T t) 0) none (cond (cond (Nat.beq (gK Y x) (yG T t)) (Nat.beq (KX y) (yG T t)) (cond (Nat.beq (KX x) (yG T t)) (Nat.beq (gK Y y) (yG T t)) false)) (EK op) none)
def JJ(T:Tb)(Y:Sg)(op:BinOp)(t:TypeId)(x y:U):V U:=match g2 (sF T op t) x y with
 |some r=>some r|none=>Gp T Y op t x y
def Pl(T:Tb)(Y:Sg)(st:TypeId)(x:U)(f:Nat):V U :=
 match T.und st with
 |some (.struct fs)=>match nth fs.toList f with
  |some fd=>(match cD T fd.type with
   |some (_+1)=>match x with
    |.ptr k s off=>cond (live Y k s) (some (.ptr k s (off+fd.offset))) none|.iptr l=>some (.iptr (l.drop fd.offset))
    |_=>none
   |_=>none)
  |none=>none
 |_=>none
def fx(T:Tb)(st:TypeId)(x:U)(f:Nat):V U :=
 match T.und st with
 |some (.struct fs)=>match nth fs.toList f with
  |some fd=>(match x with
   |.agg cs=>qw T fd.type cs fd.offset|_=>none)
  |none=>none
 |_=>none
def C5(T:Tb)(Y:Sg)(t:TypeId)(x ix:U):V U :=
 match ix with
 |.int _ i=>match T.und t with
  |some (.slice e)=>(match cD T e with
   |some sz=>match x with
    |.sl k off n _=>cond (live Y k 0) (if 0<=i/\i<n then some (.ptr k 0 (off+i.toNat*sz))else none) none|.vl k st off n=>(match oA Y k st with
     |some (l,_,gM)=>cond (Nat.beq gM sz) (if 0<=i/\i<n/\l≠[]then some (.ptr k st (off*sz+i.toNat*sz))else none) none|none=>none)
    |.isl _ l=>if 0<=i/\i<l.length then(match l[i.toNat]? with
     |some c=>cond (Nat.beq c.length sz) (some (.iptr c)) none|none=>none)else none
    |_=>none
   |none=>none)
  |some (.array n e)=>(match cD T e with
   |some sz=>match x with
    |.ptr k st off=>cond (live Y k st) (if 0<=i/\i<n then some (.ptr k st (off+i.toNat*sz))else none) none|.iptr l=>if 0<=i/\i<n then some (.iptr (l.drop (i.toNat*sz)))else none
    |_=>none
   |none=>none)
  |_=>none
 |_=>none
def wt(T:Tb)(t:TypeId)(x ix:U):V U :=
 match x with
 |.agg cs=>(match ix with
  |.int _ i=>match T.und t with
   |some (.array n e)=>(if 0<=i/\i<n then(match cD T e with
    |some sz=>qw T e cs (i.toNat*sz)|none=>none)else none)
   |_=>none
  |_=>none)
 |_=>g2 (Y4 T t) x ix
def jo(x:U)(i:Nat):V U:=match x with
 |.tup vs=>nth vs i|_=>none
def w6(T:Tb)(Y:Sg)(t:TypeId)(x:U):V U:=match T.und t with
 |some (.slice _)=>(match x with
  |.nils=>some (.int .i64 0)|.sl k _ n _=>cond (live Y k 0) (some (.int .i64 n)) none
  |.vl k st _ n=>cond (live Y k st) (some (.int .i64 n)) none|.isl _ l=>some (.int .i64 l.length)
  |_=>none)
 |some .string=>(match x with
  |.str s=>some (.int .i64 s.length)|_=>none)
 |some (.array n _)=>(match x with
  |.junk=>none|_=>some (.int .i64 n))
 |_=>none
def capU(T:Tb)(Y:Sg)(t:TypeId)(x:U):V U:=match T.und t with
 |some (.slice _)=>(match x with
  |.nils=>some (.int .i64 0)|.sl k _ _ c=>cond (live Y k 0) (some (.int .i64 c)) none
  |_=>none)
 |_=>none
def tM{v12:Type}(l:X v12)(lo hi:Nat):X v12:=(l.take hi).drop lo
def RB(T:Tb)(Y:Sg)(t:TypeId)(x:U)(lo hi:V Value):V U :=
 match T.und t with
 |some (.slice e)=>(match cD T e with
  |some sz=>match x with
   |.vl k st off n=>(match oA Y k st with
    |some (r,_,gM)=>cond (Nat.beq gM sz) (match mV n n lo hi with
      |some (l,h,_)=>if(off+n)*sz<=r.length then some (.vl k st (off+l) (h-l))else none|none=>none) none
    |none=>none)
   |.isl t l=>if(l.all fun c=>Nat.beq c.length sz)=true then(match mV l.length l.length lo hi with
    |some (a,h,_)=>some (.isl (cond t (Nat.beq h l.length) false) (tM l a h))|none=>none)else none
   |_=>none
  |none=>none)
 |_=>none
def i4(T:Tb)(Y:Sg)(tm:X U)(op:Op):V U :=
 match op with
 |.move x=>cG tm x|.assign x=>cG tm x
 |.pick c a b=>(match cG tm c with
  |some (.bool true)=>cG tm a|some (.bool false)=>cG tm b
  |_=>none)
 |.build t ps=>(match yM tm ps.toList with
  |some qs=>Gt T t qs|none=>none)
 |.nilCheck x=>(match cG tm x with
  |some (.ptr k st off)=>cond (live Y k st) (some (.ptr k st off)) none|some (.iptr l)=>some (.iptr l)
  |some (.fn (.func f) a b)=>some (.fn (.func f) a b)|_=>none)
 |.binOp op t x y _=>(match cG tm x,cG tm y with
  |some a,some b=>JJ T Y op t a b|_,_=>none)
 |.unOp op _ x=>(match cG tm x with
  |some a=>g1 (QL op) a|none=>none)
 |.convert s d x=>(match cG tm x with
  |some a=>g1 (XX T s d) a|none=>none)
 |.makeFunc fn first cap=>(match oC tm first.toList,oC tm cap.toList with
  |some a,some b=>some (.fn fn a b)|_,_=>none)
 |.slice t x lo hi none=>(match cG tm x,AP tm lo,AP tm hi with
  |some a,some l,some h=>RB T Y t a l h|_,_,_=>none)
 |.fieldAddr t x f=>(match cG tm x with
  |some a=>Pl T Y t a f|none=>none)
 |.field t x f=>(match cG tm x with
  |some a=>fx T t a f|none=>none)
 |.indexAddr t x i=>(match cG tm x,cG tm i with
  |some a,some b=>C5 T Y t a b|_,_=>none)
 |.index t x i=>(match cG tm x,cG tm i with
  |some a,some b=>wt T t a b|_,_=>none)
 |.extract x i=>(match cG tm x with
  |some a=>jo a i|none=>none)
 |.call c=>(match c.callee with
  |.builtin .len=>(match oC tm c.args.toList,c.argTypes.toList with
   |some [x],t::_=>w6 T Y t x|_,_=>none)
  |.builtin .max=>(match oC tm c.args.toList with
   |some (x::l)=>(match toV x,lL l with
    |some a,some b=>(match wC R8 a b with
     |some r=>jP r|none=>none)
    |_,_=>none)
   |_=>none)
  |.builtin .min=>(match oC tm c.args.toList with
   |some (x::l)=>(match toV x,lL l with
    |some a,some b=>(match wC R7 a b with
     |some r=>jP r|none=>none)
    |_,_=>none)
   |_=>none)
  |_=>none)
 |_=>none
def F6(T:Tb)(t:TypeId)(l:X U)(off:Nat):V U:=match T.und t with
 |none=>none|some d=>cond (qE d) (match cD T t with
   |some n=>(match kY l off n with
    |some cs=>some (.agg cs)|none=>none)
   |none=>none) (nth l off)
def qX(T:Tb)(Y:Sg)(tm:X U)(op:Op):V U :=
 match op with
 |.load t x=>(match cG tm x with
  |some (.ptr k st off)=>(match cellsOf Y k st with
   |some l=>F6 T t l off|none=>none)
  |some (.iptr l)=>F6 T t l 0|_=>none)
 |_=>none
def Lx:U->U
 |.nils=>.isl false []|.isl _ l=>.isl false l
 |u=>u
def vY:X U->X U
 |[]=>[]|u::l=>Lx u::vY l
def newU(Y:Sg)(b:B):Sg:=⟨(Y.nx,b)::Y.h,Y.nx+1⟩
def uX(Y:Sg)(sz:Nat)(x:U):V (Nat×X U):=match x with
 |.nils=>some (0,[])|.isl _ l=>if(l.all fun c=>Nat.beq c.length sz)=true then some (l.length,l.flatten)else none
 |.sl k off n _=>(match rowOf Y k with
  |some l=>(match kY l off (n*sz)with
   |some cs=>some (n,vY cs)|none=>none)
  |none=>none)
 |.vl k st off n=>(match oA Y k st with
  |some (l,_,gM)=>cond (Nat.beq gM sz) (match kY l (off*sz) (n*sz)with
   |some cs=>some (n,cs)|none=>none) none
  |none=>none)
 |_=>none
def C4(T:Tb)(Y:Sg)(t xt:TypeId)(s x:U):V (U×Sg):=
 match T.und t,T.und xt with
 |some (.slice e),some (.slice _)=>(match T.inf e with
  |some (sz+1,by_,z)=>cond (Nat.beq z.cells.toList.length (sz+1)) (match uX Y (sz+1) x with
   |none=>none|some (k,new)=>match s with
    |.nils=>if k*by_<=140737488355328/\k<=140737488355328 then some (.vl Y.nx 0 0 k,newU Y (.vec new e (sz+1) 0))else none|.isl true []=>if 0<k/\k*by_<=140737488355328/\k<=140737488355328 then some (.vl Y.nx 0 0 k,newU Y (.vec new e (sz+1) 0))else none
    |.sl a _ 0 0=>(match rowOf Y a with
     |none=>none|some _=>if k*by_<=140737488355328/\k<=140737488355328 then some (.vl Y.nx 0 0 k,newU Y (.vec new e (sz+1) 0))else none)
    |.vl a st off n=>(match gt Y.h a with
     |some (.vec l e' gM bJ)=>cond (Nat.beq bJ st) (cond (Nat.beq e' e) (cond (Nat.beq gM (sz+1)) (match kY l (off*(sz+1)) (n*(sz+1))with
      |none=>none|some p=>if(n+k)*by_<=140737488355328/\n+k<=140737488355328/\(0<k/\(off=0\/0<n)\/off=0/\n*(sz+1)=l.length)then some (.vl a (st+1) 0 (n+k),⟨ug Y.h a (.vec (p++new) e (sz+1) (st+1)),Y.nx⟩)else none) none) none) none
     |_=>none)
    |_=>none) none
  |_=>none)
 |_,_=>none
def jr(T:Tb)(Y:Sg)(t xt:TypeId)(s x:U):V (U×Sg):=match C4 T Y t xt s x with
 |some r=>some r|none=>none
def copyU(T:Tb)(Y:Sg)(t:TypeId)(d x:U):V (U×Sg):=
 match T.und t with
 |some (.slice e)=>(match cD T e with
  |none=>none|some sz=>match uX Y sz x with
   |none=>none|some (k,cs)=>match d with
    |.sl a off n _=>(match rowOf Y a with
     |some l=>if n=0\/k=0\/sz=0 then none else(match qT l off (cs.take (Nat.min k n*sz))with
      |some l'=>(match MY Y a l' with
       |some Y'=>some (.int .i64 (Nat.min k n),Y')|none=>none)
      |none=>none)
     |none=>none)
    |_=>none)
 |_=>none
def EU(Y:Sg)(k:Nat)(cs:X U):X U:=match gt Y.h k with
 |some (.vec _ _ _ _)=>vY cs|_=>cs
def XZ(T:Tb)(Y:Sg)(t:TypeId)(p u:U):V (U×Sg):=
 match p with
 |.ptr k st off=>(match cD T t with
  |none=>none|some n=>match vC u with
   |none=>none|some cs=>cond (Nat.beq cs.length n) (cond (okL cs) (match cellsOf Y k st with
    |some l=>(match qT l off (EU Y k cs)with
     |some l'=>(match MY Y k l' with
      |some Y'=>some (.junk,Y')|none=>none)
     |none=>none)
    |none=>none) none) none)
 |_=>none
def wD(z:X U)(n:Nat):X U:=(List.replicate n z).flatten
def Lr(T:Tb)(Y:Sg)(t:TypeId)(l c:U):V (U×Sg):=
 match T.und t,l,c with
 |some (.slice e),.int _ a,.int _ b=>(match T.inf e with
  |some (sz,by_,z)=>(match pM z.cells.toList with
   |some zu=>cond (okL zu) (cond (Nat.beq z.cells.toList.length sz) (if 0<=a/\a<=b/\by_*b.toNat<=281474976710656/\b<=281474976710656 then
     some (.sl Y.nx 0 a.toNat b.toNat,newU Y (.row (wD (vY zu) b.toNat) e))else none) none) none
   |none=>none)
  |none=>none)
 |_,_,_=>none
def Pp(T:Tb)(Y:Sg)(t:TypeId)(n:Nat)(ps:X (Nat×U)):V (U×Sg):=
 match T.und t with
 |some (.slice e)=>(match T.inf e with
  |some (sz,_,z)=>cond (Nat.ble (n*sz) 16777216) (cond (Nat.ble n 16777216) (cond (Nat.beq z.cells.toList.length sz) (match pM z.cells.toList with
   |none=>none|some zu=>match qY (fun i=>some (i*sz,sz)) (wD zu n) ps with
    |some cs=>cond (okL cs) (some (.sl Y.nx 0 n n,newU Y (.row cs e))) none|none=>none) none) none) none
  |none=>none)
 |_=>none
def z08(Y:Sg)(r:Nat)(es:X ME)(cl:Nat):Sg:=⟨ug Y.h r (.map es cl),Y.nx⟩
def qU(T:Tb)(Y:Sg)(tm:X U)(op:Op):V (U×Sg):=
 match op with
 |.alloc e=>(match T.inf e with
  |some (_,_,z)=>(match pM z.cells.toList with
   |some zu=>cond (okL zu) (some (.ptr Y.nx 0 0,newU Y (.row zu e))) none|none=>none)
  |none=>none)
 |.box e x=>(match cG tm x with
  |some u=>(match vC u with
   |some cs=>cond (okL cs) (some (.ptr Y.nx 0 0,newU Y (.row cs e))) none|none=>none)
  |none=>none)
 |.store t a x=>(match cG tm a,cG tm x with
  |some p,some v=>XZ T Y t p v|_,_=>none)
 |.buildSlice t n ps=>(match yM tm ps.toList with
  |some qs=>Pp T Y t n qs|none=>none)
 |.makeSlice t l c=>(match cG tm l,cG tm c with
  |some a,some b=>Lr T Y t a b|_,_=>none)
 |.makeMap _ none=>some (.map Y.nx,newU Y (.map [] 0))|.call c=>(match c.callee with
  |.builtin .append=>(match oC tm c.args.toList,c.argTypes.toList with
   |some [a,b],[t,xt]=>jr T Y t xt a b|_,_=>none)
  |_=>none)
 |_=>none
def bI(T:Tb)(Y:Sg)(tm:X U)(op:Op):V (U×Sg):=
 match i4 T Y tm op with
 |some v=>some (v,Y)|none=>match qX T Y tm op with
  |some v=>some (v,Y)|none=>qU T Y tm op
def jO(T:Tb)(tm:X U)(op:Op):V (FuncId×X U):=
 match op with
 |.call c=>(match c.callee with
  |.value f=>(match cG tm f with
   |some (.fn (.func g) first cap)=>(match T.fn g with
    |some fn=>cond fn.body.isSome (match oC tm c.args.toList with
     |some args=>some (g,first++args++cap)|none=>none) none
    |none=>none)
   |_=>none)
  |_=>none)
 |_=>none
end Go.Vx
namespace Go.Vx
open Go Go.Rx
mutual
def KU:(u:U)->(v:Value)->toV u=some v->∀(x:Cx)(v':Value),aC x u v'↔v'=v
 |.bool b,v,h,x,v'=>by simp only[toV,zA]at h;subst h;simp[aC]
 |.int k n,v,h,x,v'=>by simp only[toV,zA]at h;subst h;simp[aC]
 |.str l,v,h,x,v'=>by simp only[toV,zA]at h;subst h;simp[aC]
 |.nilp,v,h,x,v'=>by simp only[toV,zA]at h;subst h;simp[aC]
 |.nils,v,h,x,v'=>by simp only[toV,zA]at h;subst h;simp[aC]
 |.nilm,v,h,x,v'=>by simp only[toV,zA]at h;subst h;simp[aC]
 |.nilf,v,h,x,v'=>by simp only[toV,zA]at h;subst h;simp[aC]
 |.nili,v,h,x,v'=>by simp only[toV,zA]at h;subst h;simp[aC]
 |.agg l,v,h,x,v'=>by simp only[toV]at h;rcases hk:okL l with _|_;simp[hk]at h;simp only[hk,zC]at h;rcases hl:lL l with _|vs;simp[hl]at h;simp only[hl,zA]at h;subst h;have:=NE l vs hl x;simp only[aC,hk,and_true];constructor;rintro⟨ws,rfl,h1,h2⟩;rw[(this ws).1 ⟨h1,h2⟩];rintro rfl;exact⟨vs,rfl,((this vs).2 rfl).1,((this vs).2 rfl).2⟩
 |.junk,v,h,x,v'=>by simp[toV]at h
 |.ptr _ _ _,v,h,x,v'=>by simp[toV]at h
 |.iptr _,v,h,x,v'=>by simp[toV]at h
 |.sl _ _ _ _,v,h,x,v'=>by simp[toV]at h
 |.vl _ _ _ _,v,h,x,v'=>by simp[toV]at h
 |.isl _ _,v,h,x,v'=>by simp[toV]at h
 |.map _,v,h,x,v'=>by simp[toV]at h
 |.fn _ _ _,v,h,x,v'=>by simp[toV]at h
 |.tup _,v,h,x,v'=>by simp[toV]at h
def NE:(l:X U)->(vs:X Value)->lL l=some vs->∀(x:Cx)(ws:X Value),bA x l ws↔ws=vs
 |[],vs,h,x,ws=>by simp only[lL,zA]at h;subst h;exact⟨fun h=>h.nil_inv,fun h=>h ▸ bA.nil x⟩
 |u::l,vs,h,x,ws=>by simp only[lL]at h;rcases hu:toV u with _|v;simp[hu]at h;rcases hl:lL l with _|sS;simp[hu,hl]at h;simp only[hu,hl,zA]at h;subst h;constructor;intro hr;obtain⟨w,ws',rfl,h1,h2⟩:=hr.inv;rw[(KU u v hu x w).1 h1,(NE l sS hl x ws').1 h2];rintro rfl;exact bA.cons ((KU u v hu x v).2 rfl) ((NE l sS hl x sS).2 rfl)
end
mutual
def v03:(v:Value)->(u:U)->jP v=some u->plain v=true/\∀x:Cx,aC x u v
 |.bool b,u,h=>by simp only[jP,zA]at h;subst h;simp[aC,plain]
 |.int k n,u,h=>by simp only[jP,zA]at h;subst h;simp[aC,plain]
 |.string s,u,h=>by simp only[jP,zA]at h;subst h;simp[aC,plain]
 |.pointer none,u,h=>by simp only[jP,zA]at h;subst h;simp[aC,plain]
 |.slice none n c,u,h=>by simp only[jP]at h;split at h;simp only[zA]at h;subst h;simp[aC,plain];cases h
 |.map none,u,h=>by simp only[jP,zA]at h;subst h;simp[aC,plain]
 |.nilFunc,u,h=>by simp only[jP,zA]at h;subst h;simp[aC,plain]
 |.nilIface,u,h=>by simp only[jP,zA]at h;subst h;simp[aC,plain]
 |.agg ⟨l⟩,u,h=>by simp only[jP]at h;rcases hl:pM l with _|us;simp[hl]at h;simp only[hl]at h;rcases hk:okL us with _|_;simp[hk]at h;simp only[hk,zC,zA]at h;subst h;obtain⟨h1,h2⟩:=Y8 l us hl;exact⟨by simp[plain,h1],fun x=>by simp only[aC];exact⟨l,rfl,(h2 x).1,(h2 x).2,hk⟩⟩
 |.float _ _,u,h=>by simp[jP]at h
 |.complex _ _ _,u,h=>by simp[jP]at h
 |.pointer (some _),u,h=>by simp[jP]at h
 |.slice (some _) _ _,u,h=>by simp[jP]at h
 |.map (some _),u,h=>by simp[jP]at h
 |.chan _,u,h=>by simp[jP]at h
 |.func _ _ _,u,h=>by simp[jP]at h
 |.iface _ _,u,h=>by simp[jP]at h
 |.tuple _,u,h=>by simp[jP]at h
def Y8:(l:X Value)->(us:X U)->pM l=some us->RC l=true/\∀x:Cx,bA x us l
 |[],us,h=>by simp only[pM,zA]at h;subst h;exact⟨by simp[RC],fun x=>bA.nil x⟩
 |v::l,us,h=>by simp only[pM]at h;rcases hv:jP v with _|u;simp[hv]at h;rcases hl:pM l with _|Fs;simp[hv,hl]at h;simp only[hv,hl,zA]at h;subst h;obtain⟨h1,h2⟩:=v03 v u hv;obtain⟨h3,h4⟩:=Y8 l Fs hl;exact⟨by simp[RC,h1,h3],fun x=>bA.cons (h2 x) (h4 x)⟩
end
section
variable{x:Cx}{tm:X U}{tv:X Value}(ht:bA x tm tv)
include ht
def jF{o:Xt}{u:U}(h:cG tm o=some u):∃v,evalO tv o=some v/\aC x u v:=by
 cases o with
 |tmp t=>simp only[cG,kK]at h;obtain⟨v,h1,h2⟩:=ht.get h;exact⟨v,by simp[evalO,kK,h1],h2⟩
 |const v=>obtain⟨h1,h2⟩:=v03 v u h;exact⟨v,by simp[evalO,h1],h2 x⟩
 |func f=>simp only[cG,zA]at h;subst h;exact⟨_,rfl,by simp only[aC];exact⟨[],[],rfl,by simp[c9],rfl,by simp[c9],rfl⟩⟩|global g=>simp[cG]at h
def YO{l:X Xt}{us:X U}(h:oC tm l=some us):∃vs,oN tv l=some vs/\bA x us vs:=by induction l generalizing us with|nil=>simp only[oC,zA]at h;subst h;exact⟨[],rfl,bA.nil x⟩|cons o l ih=>simp only[oC]at h;rcases h1:cG tm o with _|u;simp[h1]at h;rcases h2:oC tm l with _|Fs;simp[h1,h2]at h;simp only[h1,h2,zA]at h;subst h;obtain⟨v,e1,r1⟩:=jF ht h1;obtain⟨vs,e2,r2⟩:=ih h2;exact⟨v::vs,by simp[oN,e1,e2],bA.cons r1 r2⟩
inductive XY(x:Cx):List (Nat×U)->List (Nat×Value)->Prop
 |nil:XY x [] []
 |cons {i:Nat} {u:U} {v:Value} {l:List (Nat×U)} {m:List (Nat×Value)}:aC x u v->XY x l m->XY x ((i,u)::l) ((i,v)::m)
def Y_{l:X (Nat×Xt)}{us:X (Nat×U)}(h:yM tm l=some us):∃vs,GY tv l=some vs/\XY x us vs:=by induction l generalizing us with|nil=>simp only[yM,zA]at h;subst h;exact⟨[],rfl,.nil⟩|cons o l ih=>obtain⟨i,o⟩:=o;simp only[yM]at h;rcases h1:cG tm o with _|u;simp[h1]at h;rcases h2:yM tm l with _|Fs;simp[h1,h2]at h;simp only[h1,h2,zA]at h;subst h;obtain⟨v,e1,r1⟩:=jF ht h1;obtain⟨vs,e2,r2⟩:=ih h2;exact⟨(i,v)::vs,by simp[GY,e1,e2],.cons r1 r2⟩
def qqp{o:V Xt}{r:V Value}(h:AP tm o=some r):v7 tv o=some r:=by rcases o with _|o;simpa[AP,v7]using h;simp only[AP]at h;rcases h1:cG tm o with _|u;simp[h1]at h;obtain⟨v,e1,r1⟩:=jF ht h1;cases u with|int k n=>simp only[h1,zA]at h;simp only[aC]at r1;subst r1;subst h;simp[v7,e1]|_=>simp[h1]at h
end
variable{x:Cx}
variable{u:U}
variable{v:Value}
def U7{f:Value->V Value}{r:U}(h:g1 f u=some r)(hr:aC x u v):∃rv,f v=some rv/\aC x r rv:=by unfold g1 at h;rcases h1:toV u with _|v0;simp[h1]at h;simp only[h1]at h;rcases h2:f v0 with _|rv;simp[h2]at h;simp only[h2]at h;rw[(KU u v0 h1 x v).1 hr];exact⟨rv,h2,(v03 rv r h).2 x⟩
def U6{f:Value->Value->V Value}{a b r:U}{va vb:Value}(h:g2 f a b=some r)(ha:aC x a va)(hb:aC x b vb):∃rv,f va vb=some rv/\aC x r rv:=by unfold g2 at h;rcases h1:toV a with _|v1;simp[h1]at h;rcases h2:toV b with _|v2;simp[h1,h2]at h;simp only[h1,h2]at h;rcases h3:f v1 v2 with _|rv;simp[h3]at h;simp only[h3]at h;rw[(KU a v1 h1 x va).1 ha,(KU b v2 h2 x vb).1 hb];exact⟨rv,h3,(v03 rv r h).2 x⟩
def qrc(hr:aC x u v)(hn:okC u=true):v.oneCell'=true:=by
 cases u with
 |junk=>simp[okC]at hn|agg l=>simp[okC]at hn
 |tup l=>simp[okC]at hn|ptr k st off=>simp only[aC]at hr;exact hr.1
 |sl k off n c=>simp only[aC]at hr;exact hr.1|vl k st off n=>simp only[aC]at hr;exact hr.1
 |map k=>simp only[aC]at hr;exact hr.1|iptr l=>simp only[aC]at hr;obtain⟨_,_,_,_,rfl,_⟩:=hr;rfl
 |isl t l=>simp only[aC]at hr;rcases hr with⟨_,rfl |⟨_,rfl⟩⟩|⟨_,_,_,rfl,_⟩<;>rfl
 |fn f a b=>simp only[aC]at hr;obtain⟨_,_,rfl,_⟩:=hr;rfl
 |_=>simp only[aC]at hr;subst hr;rfl
variable{l:X U}
variable{vs:X Value}
def kl(hr:bA x l vs)(hk:okL l=true):vD vs=true:=by induction l generalizing vs with|nil=>rw[hr.nil_inv];rfl|cons u l ih=>obtain⟨v,sS,rfl,h1,h2⟩:=hr.inv;simp only[okL]at hk;obtain⟨k1,k2⟩:=L6 hk;simp[vD,qrc h1 k1,ih h2 k2]
def Z_{cs:X U}(hr:aC x u v)(h:vC u=some cs):bA x cs v.cells.toList/\okL cs=true:=by
 have one:okC u=true->cs=[u]->bA x cs v.cells.toList/\okL cs=true:=fun h1 h2=>by
  subst h2;have:=qrc hr h1;have e:v.cells= #[v]:=by cases v<;>first |rfl |(simp[Value.oneCell']at this)
  rw[e];exact⟨bA.cons hr (bA.nil x),by simp[okL,h1]⟩
 cases u with
 |junk=>simp[vC]at h|tup l=>simp[vC]at h
 |agg l=>simp only[vC,zA]at h;subst h;simp only[aC]at hr;obtain⟨vs,rfl,h1,h2,h3⟩:=hr;exact⟨⟨h1,h2⟩,h3⟩
 |_=>simp only[vC,zA]at h;exact one rfl h.symm
def zay(h:aC x u v):aC x (Lx u) v:=by
 cases u with
 |nils=>simp only[Lx,aC]at*;exact .inl ⟨trivial,.inl h⟩|isl t l=>simp only[Lx,aC]at*;rcases h with h |⟨i,off,c,h1,h2,h3⟩;exact .inl h;exact .inr ⟨i,off,c,h1,(fun h=>by cases h),h3⟩
 |_=>exact h
def W6(u:U):okC (Lx u)=okC u:=by cases u<;>rfl
def io:∀l:X U,(vY l).length=l.length
 |[]=>rfl|u::l=>by simp[vY,io l]
def wa:∀l:X U,okL (vY l)=okL l
 |[]=>rfl|u::l=>by simp[vY,okL,W6,wa l]
def qww{x:Cx}:∀{l:X U}{vs:X Value},c9 x l vs->c9 x (vY l) vs
 |[],vs,h=>by simp[vY,c9]
 |u::l,[],h=>by simp[c9]at h
 |u::l,v::vs,h=>by simp only[vY,c9]at*;exact⟨zay h.1,qww h.2⟩
def im(h:bA x l vs):bA x (vY l) vs:=⟨qww h.1,by rw[io];exact h.2⟩
def zax{Y:Sg}{k:Nat}(h:bA x l vs):bA x (EU Y k l) vs:=by unfold EU;split;exact im h;exact h
def W7(Y:Sg)(k:Nat)(l:X U):okL (EU Y k l)=okL l:=by unfold EU;split;exact wa l;rfl
structure Out(x y:Cx):Prop where
 h:iZ y
 mo:Mo x.Y.nx x y
 fr:∀F,Fr F x->Fr F y
def nc:F9:=fun _ _ _=>none
def rZ(T:Tb)(x:Cx)(tv:X Value)(op:Op)(u:U)(Y':Sg):Prop:=∃v y,yR T nc tv x.s op=some (v,y.s)/\y.Y=Y'/\aC y u v/\Out x y
def Mo.refl(n:Nat)(x:Cx):Mo n x x:=⟨fun k _ h2=>⟨h2,fun b hb=>⟨b,hb,zF _,fun _=>⟨rfl,fun l e sz st h=>⟨l,h⟩⟩⟩⟩,fun _ _ _ h=>h⟩
def Out.refl{x:Cx}(h:iZ x):Out x x:=⟨h,Mo.refl _ _,fun _ h=>h⟩
variable{T:Tb}
variable{tv:X Value}
variable{op:Op}
def rZ.same(hx:iZ x)(h:yR T nc tv x.s op=some (v,x.s))(hr:aC x u v):rZ T x tv op u x.Y:=⟨v,x,h,rfl,hr,Out.refl hx⟩
variable{call:F9}
variable{s:S}
def z5n(h:jN T tv op=some v):yR T call tv s op=some (v,s):=by simp[yR,h]
def o_(h0:jN T tv op=none)(h:v6 T tv s op=some v):yR T call tv s op=some (v,s):=by simp[yR,h,h0]
def qvs{r:Value×S}(h0:jN T tv op=none)(h1:v6 T tv s op=none)(h:AE T tv s op=some r):yR T call tv s op=some r:=by simp[yR,h,h0,h1]
def bump(x:Cx):Cx:=⟨x.I,x.Y,⟨x.s.h,x.s.nx+1⟩⟩
def rf(n:Nat)(x:Cx):Mo n x (bump x):=⟨fun k _ h2=>⟨h2,fun b hb=>⟨b,hb,zF _,fun _=>⟨rfl,fun l e sz st h=>⟨l,h⟩⟩⟩⟩,fun _ _ _ h=>h⟩
def B_(h:aC x u v):aC (bump x) u v:=(rf x.Y.nx x).ke u v (aC.bel u v h) h
def VN(h:bA x l vs):bA (bump x) l vs:=(rf x.Y.nx x).ke.E h.bel h
def z4d(h:iZ x):Out x (bump x):=by
 refine⟨⟨fun k b hb=>?_,h.inj,fun i b hb=>Nat.lt_succ_of_lt (h.bd i b hb)⟩,rf _ _,fun F O=>O⟩;obtain⟨h1,h2⟩:=h.ok k b hb;refine⟨h1,?_⟩;cases b with
 |row l e=>obtain⟨k1,i,l',e1,e2,e3⟩:=h2;exact⟨k1,i,l',e1,e2,VN e3⟩
 |vec l e sz st=>obtain⟨k1,k2,h3⟩:=h2;refine⟨k1,k2,?_⟩;rcases h3 with h3 |⟨i,l',e1,e2,e3⟩;exact .inl h3;exact .inr ⟨i,l',e1,e2,VN e3⟩
 |map es cl=>obtain⟨i,es',e1,e2,e3⟩:=h2;refine⟨i,es',e1,e2,e3.1,fun j e he=>?_⟩;obtain⟨v,q1,q2,q3,q4⟩:=e3.2 j e he;exact⟨v,q1,B_ q2,B_ q3,q4⟩
end Go.Vx
namespace Go.Vx
open Go Go.Rx
variable{l:X Value}
variable{n:Nat}
def z6i(h:n<=l.length):GT l n=some (l.take n):=by
 induction l generalizing n with
 |nil=>simp at h;subst h;simp[GT]|cons a l ih=>cases n with
  |zero=>simp[GT]|succ n=>simp[GT,ih (by simpa using h)]
variable{off:Nat}
def wc(h:off+n<=l.length):uV l off n=some ((l.drop off).take n):=z6i (by simp;omega)
variable{vs:X Value}
def za5(h:vs.length<=l.length):EZ l vs=some (vs++l.drop vs.length):=by
 induction vs generalizing l with
 |nil=>simp[EZ]|cons v vs ih=>cases l with
  |nil=>simp at h|cons a l=>simp[EZ,ih (by simpa using h)]
def za7(h:off+vs.length<=l.length):y9 l off vs=some (l.take off++(vs++l.drop (off+vs.length))):=by
 induction l generalizing off with
 |nil=>simp at h;obtain⟨rfl,rfl⟩:=h;simp[y9,EZ]
 |cons a l ih=>cases off with
  |zero=>simp only[y9,Nat.zero_add]at*;rw[za5 h];simp|succ off=>simp[y9,ih (off:=off) (by simp at h;omega),Nat.succ_add]
variable{l:X U}
def YH(h:okL l=true)(n:Nat):okL (l.take n)=true:=(KW _).2 fun u hu=>(KW l).1 h u (List.mem_of_mem_take hu)
def FG(h:okL l=true)(n:Nat):okL (l.drop n)=true:=(KW _).2 fun u hu=>(KW l).1 h u (List.mem_of_mem_drop hu)
def S8{a b:X U}(h:okL a=true)(h':okL b=true):okL (a++b)=true:=(KW _).2 fun u hu=>(yD.1 hu).elim ((KW a).1 h u) ((KW b).1 h' u)
variable{r:X U}
def S4(h:kY l off n=some r):off+n<=l.length/\r=(l.drop off).take n:=by unfold kY at h;split at h;simp at h;exact⟨by assumption,h.symm⟩;cases h
def z1q{vs:X U}(h:qT l off vs=some r):off+vs.length<=l.length/\r=l.take off++(vs++l.drop (off+vs.length)):=by unfold qT at h;split at h;simp at h;exact⟨by assumption,h.symm⟩;cases h
variable{x:Cx}
def z1p{vs:X U}{lv vv:X Value}(h:qT l off vs=some r)(hl:bA x l lv)(hv:bA x vs vv):∃rv,y9 lv off vv=some rv/\bA x r rv/\(okL l=true->okL vs=true->okL r=true):=by obtain⟨h1,rfl⟩:=z1q h;refine⟨_,za7 (by rw[<-hl.2,<-hv.2];exact h1),?_,fun a b=>S8 (YH a _) (S8 b (FG a _))⟩;rw[<-hv.2];exact(hl.take _).append (hv.append (hl.drop _))
def z2o{lv:X Value}(h:kY l off n=some r)(hl:bA x l lv):uV lv off n=some ((lv.drop off).take n)/\bA x r ((lv.drop off).take n):=by obtain⟨h1,rfl⟩:=S4 h;exact⟨wc (by rw[<-hl.2];exact h1),(hl.drop _).take _⟩
def Pj{x:Cx}{place:Nat->V (Nat×Nat)}:∀{ps:X (Nat×U)}{pv:X (Nat×Value)}{cells r:X U}{cv:X Value},XY x ps pv->bA x cells cv->qY place cells ps=some r->∃rv,DI place cv pv=some rv/\bA x r rv
 |_,_,cells,r,cv,.nil,hc,h=>by simp only[qY,zA]at h;subst h;exact⟨cv,rfl,hc⟩
 |_,_,cells,r,cv,.cons (i:=i) (u:=u) (v:=v) (l:=l) (m:=m) hu hp,hc,h=>by simp only[qY]at h;rcases h1:place i with _|q;simp[h1]at h;obtain⟨off,size⟩:=q;simp only[h1]at h;rcases h2:vC u with _|cs;simp[h2]at h;simp only[h2]at h;obtain⟨c1,c2⟩:=Z_ hu h2;rcases h3:Nat.beq cs.length size with _|_;simp[h3]at h;simp only[h3,zC]at h;rcases h4:qT cells off cs with _|c;simp[h4]at h;simp only[h4]at h;obtain⟨rv,q1,q2,_⟩:=z1p h4 hc c1;obtain⟨rv',q3,q4⟩:=Pj hp q2 h;exact⟨rv',by simp only[DI,h1];rw[<-c1.2,h3];simp only[zC,q1,q3],q4⟩
variable{T:Tb}
variable{t:TypeId}
variable{u:U}
def qw5{cs:X U}(h:qw T t cs off=some u)(hc:bA x cs vs)(hk:okL cs=true):∃v,MZ T t vs off=some v/\aC x u v:=by
 unfold qw at h;unfold MZ;rcases hd:T.und t with _|d;simp[hd]at h;simp only[hd]at h ⊢;cases ha:qE d with
 |true=>simp only[ha,zC]at h ⊢;rcases hs:cD T t with _|n;simp[hs]at h;simp only[hs,zA]at h ⊢;subst h;refine⟨_,rfl,?_⟩;simp only[aC];exact⟨_,rfl,((hc.drop off).take n).1,((hc.drop off).take n).2,YH (FG hk _) _⟩
 |false=>simp only[ha,zD,kK]at h ⊢;exact hc.get h
def qyv{ps:X (Nat×U)}{pv:X (Nat×Value)}(h:Gt T t ps=some u)(hp:XY x ps pv):∃v,Ok T t pv=some v/\aC x u v:=by
 unfold Gt at h;unfold Ok;rcases hi:T.inf t with _|q;simp[hi]at h;obtain⟨a,b,z⟩:=q;simp only[hi]at h ⊢;rcases hz:pM z.cells.toList with _|zu;simp[hz]at h;simp only[hz]at h;have CE:=(Y8 _ _ hz).2 x;rcases hd:T.und t with _|d;simp[hd]at h;cases d with
 |struct fs=>simp only[hd]at h ⊢;rcases hs:H4 T fs.toList with _|_;simp[hs]at h;simp only[hs,zC]at h ⊢;rcases hf:qY (KZ T fs.toList) zu ps with _|cs;simp[hf]at h;simp only[hf]at h;rcases hk:okL cs with _|_;simp[hk]at h;simp only[hk,zC,zA]at h;subst h;obtain⟨rv,q1,q2⟩:=Pj hp CE hf;exact⟨.agg rv.toArray,by simp[q1],by simp only[aC];exact⟨rv,rfl,q2.1,q2.2,hk⟩⟩
 |array n e=>simp only[hd]at h ⊢;rcases hs:cD T e with _|sz;simp[hs]at h;simp only[hs]at h ⊢;rcases hf:qY (fun i=>some (i*sz,sz)) zu ps with _|cs;simp[hf]at h;simp only[hf]at h;rcases hk:okL cs with _|_;simp[hk]at h;simp only[hk,zC,zA]at h;subst h;obtain⟨rv,q1,q2⟩:=Pj hp CE hf;exact⟨.agg rv.toArray,by simp[q1],by simp only[aC];exact⟨rv,rfl,q2.1,q2.2,hk⟩⟩
 |_=>simp[hd]at h
variable{Y:Sg}
variable{k:Nat}
def Pq{st:Nat}(h:live Y k st=true):∃b,gt Y.h k=some b/\b.st=st:=by unfold live at h;rcases hb:gt Y.h k with _|b;simp[hb]at h;simp only[hb,beq_eq,decide_eq_true_eq]at h;exact⟨b,rfl,h⟩
variable{v:Value}
def YI{st:Nat}(hl:live x.Y k st=true)(hr:aC x (.ptr k st off) v):∃i,x.I k=some i/\v=.pointer (some ⟨i,off,none⟩):=by obtain⟨b,h1,h2⟩:=Pq hl;simp only[aC]at hr;exact((hr.2.2 b h1).2 h2.symm)
def Gy{c:Nat}(hl:live x.Y k 0=true)(hr:aC x (.sl k off n c) v):∃i,x.I k=some i/\v=.slice (some ⟨i,off,none⟩) n c/\c<cV/\n<=c:=by obtain⟨b,h1,h2⟩:=Pq hl;simp only[aC]at hr;exact((hr.2.2 b h1).2 h2.symm)
def qvf(hl:live x.Y k 0=true)(hr:aC x (.map k) v):∃i,x.I k=some i/\v=.map (some i):=by obtain⟨b,h1,h2⟩:=Pq hl;simp only[aC]at hr;exact((hr.2.2 b h1).2 h2.symm)
def Gx{st:Nat}(hl:live x.Y k st=true)(hr:aC x (.vl k st off n) v):∃l e sz,gt x.Y.h k=some (.vec l e sz st)/\K9 off n v sz (x.I k):=by obtain⟨b,h1,h2⟩:=Pq hl;simp only[aC]at hr;obtain⟨l,e,sz,rfl,h3⟩:=(hr.2.2 b h1).2 h2.symm;exact⟨l,e,sz,h1,h3⟩
def c?{st:Nat}{r:X U×TypeId×Nat}(h:oA Y k st=some r):gt Y.h k=some (.vec r.1 r.2.1 r.2.2 st)/\live Y k st=true:=by
 unfold oA at h;rcases hb:gt Y.h k with _|b;simp[hb]at h;cases b with
 |vec l e sz bJ=>simp only[hb,beq_eq]at h;by_cases dC:bJ=st;subst dC;simp at h;subst h;exact⟨rfl,by simp[live,hb,B.st]⟩;simp[dC]at h|_=>simp[hb]at h
def qnr(h:rowOf Y k=some l):∃e,gt Y.h k=some (.row l e)/\live Y k 0=true:=by
 unfold rowOf at h;rcases hb:gt Y.h k with _|b;simp[hb]at h;cases b with
 |row l' e=>simp[hb]at h;subst h;exact⟨e,rfl,by simp[live,hb,B.st]⟩|_=>simp[hb]at h
def z8m{sz:Nat}{o:V Nat}(h:K9 off n v sz o):∃a c,v=.slice a n c:=by
 cases o with
 |none=>obtain⟨_,rfl,o,rfl,_⟩:=h;exact⟨o,0,rfl⟩
 |some i=>rcases h with⟨_,rfl,a,c,rfl,_⟩|rfl<;>exact⟨_,_,rfl⟩
def rz(hx:iZ x){st:Nat}(hl:live x.Y k st=true)(hr:aC x (.vl k st off n) v)(hn:0<n):
  ∃i l e sz l',gt x.Y.h k=some (.vec l e sz st)/\x.I k=some i/\v=.slice (some ⟨i,off*sz,none⟩) n (cV+off)/\lk x.s.h i=some (.inl (l',e,sz+2))/\bA x l l'/\0<sz/\okL l=true:=by obtain⟨l,e,sz,h1,h2⟩:=Gx hl hr;obtain⟨_,k1,k2,h3⟩:=hx.ok k _ h1;rcases h3 with⟨_,h3⟩|⟨i,l',e1,e2,e3⟩;rw[h3]at h2;obtain⟨_,rfl,_⟩:=h2;omega;rw[e1]at h2;rcases h2 with⟨_,rfl,_⟩|h2;omega;exact⟨i,l,e,sz,l',h1,e1,h2,e2,e3,k2,k1⟩
def qwp(hx:iZ x)(hr:aC x u v)(h:gK x.Y u=k)(hk:k≠0):
  (k=1/\∃a,v=.pointer (some a))\/(k=2/\∃a n c,v=.slice (some a) n c)\/(k=3/\∃r,v=.map (some r)):=by
 cases u with
 |ptr k' st off=>simp only[gK]at h;rcases hl:live x.Y k' st with _|_;simp[hl]at h;omega;simp[hl]at h;obtain⟨i,_,rfl⟩:=YI hl hr;exact .inl ⟨h.symm,_,rfl⟩
 |iptr l=>simp only[gK]at h;simp only[aC]at hr;obtain⟨i,off,_,_,rfl,_⟩:=hr;exact .inl ⟨h.symm,_,rfl⟩
 |sl k' off n c=>simp only[gK]at h;rcases hl:live x.Y k' 0 with _|_;simp[hl]at h;omega;simp[hl]at h;obtain⟨i,_,rfl,_⟩:=Gy hl hr;exact .inr (.inl ⟨h.symm,_,_,_,rfl⟩)
 |vl k' st off n=>cases n with|zero=>simp[gK]at h;omega|succ n=>simp only[gK]at h;rcases hl:live x.Y k' st with _|_;simp[hl]at h;omega;simp[hl]at h;obtain⟨i,l,e,sz,l',_,_,rfl,_⟩:=rz hx hl hr (Nat.succ_pos _);exact .inr (.inl ⟨h.symm,_,_,_,rfl⟩)
 |isl t l=>rcases l with _|⟨c,l⟩;simp[gK]at h;omega;simp only[gK]at h;simp only[aC]at hr;rcases hr with⟨hr,_⟩|⟨i,off,c',rfl,_⟩;cases hr;exact .inr (.inl ⟨h.symm,_,_,_,rfl⟩)
 |map k'=>simp only[gK]at h;rcases hl:live x.Y k' 0 with _|_;simp[hl]at h;omega;simp[hl]at h;obtain⟨i,_,rfl⟩:=qvf hl hr;exact .inr (.inr ⟨h.symm,_,rfl⟩)
 |_=>simp[gK]at h;omega
def qni(hr:aC x u v)(h:KX u=k)(hk:k≠0):(k=1/\v=.pointer none)\/(k=2/\v=.slice none 0 0)\/(k=3/\v=.map none):=by
 cases u with
 |nilp=>simp only[KX]at h;simp only[aC]at hr;exact .inl ⟨h.symm,hr⟩|nils=>simp only[KX]at h;simp only[aC]at hr;exact .inr (.inl ⟨h.symm,hr⟩)
 |nilm=>simp only[KX]at h;simp only[aC]at hr;exact .inr (.inr ⟨h.symm,hr⟩)|_=>simp[KX]at h;omega
def z0h(hx:iZ x){op:BinOp}{a b:U}{va vb:Value}(h:Gp T x.Y op t a b=some u)(ha:aC x a va)(hb:aC x b vb):∃v,sF T op t va vb=some v/\aC x u v:=by
 unfold Gp at h;simp only[beq_eq]at h;by_cases h0:yG T t=0;simp[h0]at h;simp only[h0,yB,zD]at h;have key:EK op=some u->
   (yG T t=1/\((∃p,va=.pointer (some p))/\vb=.pointer none\/va=.pointer none/\∃p,vb=.pointer (some p)))\/
   (yG T t=2/\((∃p n c,va=.slice (some p) n c)/\vb=.slice none 0 0\/va=.slice none 0 0/\∃p n c,vb=.slice (some p) n c))\/
   (yG T t=3/\((∃p,va=.map (some p))/\vb=.map none\/va=.map none/\∃p,vb=.map (some p)))->∃v,sF T op t va vb=some v/\aC x u v:=by
  intro sM hk;have Bh:∀{k:Nat},yG T t=k->k≠0->(k=1->∃e,T.und t=some (.pointer e))/\(k=2->∃e,T.und t=some (.slice e))/\(k=3->∃e e',T.und t=some (.map e e')):=by intro k hk FT;unfold yG at hk;rcases hd:T.und t with _|d;simp[hd]at hk;omega;cases d<;>simp[hd]at hk<;>subst hk<;>simp at FT ⊢
  rcases hk with⟨hk,hv⟩|⟨hk,hv⟩|⟨hk,hv⟩;obtain⟨e,he⟩:=(Bh hk qq0).1 rfl;rcases hv with⟨⟨p,rfl⟩,rfl⟩|⟨rfl,p,rfl⟩<;>cases op<;>simp[EK]at sM<;>subst sM<;>simp[sF,M3,FJ,he,aC];obtain⟨e,he⟩:=(Bh hk qq0).2.1 rfl;rcases hv with⟨⟨p,n,c,rfl⟩,rfl⟩|⟨rfl,p,n,c,rfl⟩<;>cases op<;>simp[EK]at sM<;>subst sM<;>simp[sF,M3,FJ,he,aC];obtain⟨e,e',he⟩:=(Bh hk qq0).2.2 rfl;rcases hv with⟨⟨p,rfl⟩,rfl⟩|⟨rfl,p,rfl⟩<;>cases op<;>simp[EK]at sM<;>subst sM<;>simp[sF,M3,FJ,he,aC]
 by_cases h1:gK x.Y a=yG T t;by_cases h2:KX b=yG T t;simp only[h1,h2,yC,zC]at h;refine key h ?_;rcases qwp hx ha h1 h0 with⟨e1,q⟩|⟨e1,q⟩|⟨e1,q⟩<;>rcases qni hb h2 h0 with⟨e2,q'⟩|⟨e2,q'⟩|⟨e2,q'⟩<;>first |omega |skip
 exact .inl ⟨e1,.inl ⟨q,q'⟩⟩;exact .inr (.inl ⟨e1,.inl ⟨q,q'⟩⟩);exact .inr (.inr ⟨e1,.inl ⟨q,q'⟩⟩);simp[h1,h2]at h;simp only[h1,yB,zD]at h;by_cases h2:KX a=yG T t;by_cases h3:gK x.Y b=yG T t;simp only[h2,h3,yC,zC]at h;refine key h ?_;rcases qwp hx hb h3 h0 with⟨e1,q⟩|⟨e1,q⟩|⟨e1,q⟩<;>rcases qni ha h2 h0 with⟨e2,q'⟩|⟨e2,q'⟩|⟨e2,q'⟩<;>first |omega |skip
 exact .inl ⟨e1,.inr ⟨q',q⟩⟩;exact .inr (.inl ⟨e1,.inr ⟨q',q⟩⟩);exact .inr (.inr ⟨e1,.inr ⟨q',q⟩⟩);simp[h2,h3]at h;simp[h2]at h
def z8t(hx:iZ x){op:BinOp}{a b:U}{va vb:Value}(h:JJ T x.Y op t a b=some u)(ha:aC x a va)(hb:aC x b vb):∃v,sF T op t va vb=some v/\aC x u v:=by unfold JJ at h;rcases h1:g2 (sF T op t) a b with _|r;simp only[h1]at h;exact z0h hx h ha hb;simp only[h1,zA]at h;subst h;exact U6 h1 ha hb
variable{v:Value}
variable{n:Nat}
def x?{y y':Nat}(h:wE v y=some n)(hy:y<=y'):wE v y'=some n/\n<=y:=by
 unfold wE at*;cases v with
 |int k i=>
  simp only at*;rcases h1:sL i (y+1)with _|_;simp[h1]at h;simp only[h1,zC,zA]at h;obtain⟨a,b⟩:=Hj h1;have:sL i (y'+1)=true:=by
   unfold sL;cases i with
   |ofNat k=>simp at b ⊢;omega|negSucc k=>omega
  exact⟨by simp[this,h],by omega⟩
 |_=>simp at h
variable{lo:V Value}
variable{hi:V Value}
variable{l:Nat}
variable{h:Nat}
variable{m:Nat}
def S3{c:Nat}(hb:mV n n lo hi=some (l,h,m))(hc:n<=c):mV n c lo hi=some (l,h,c)/\l<=h/\h<=n/\m=n:=by
 unfold mV at*;cases hi with
 |none=>
  simp only at*;cases lo with
  |none=>simp only[zA,zB]at hb ⊢;obtain⟨rfl,rfl,rfl⟩:=hb;simp
  |some v=>simp only at*;rcases h1:wE v n with _|k;simp[h1]at hb;simp only[h1,zA,zB]at hb ⊢;obtain⟨rfl,rfl,rfl⟩:=hb;simp[(x? h1 (zF _)).2]
 |some w=>
  simp only at*;rcases h2:wE w n with _|k2;simp[h2]at hb;obtain⟨e2,e3⟩:=x? h2 hc;simp only[h2,e2]at hb ⊢;cases lo with
  |none=>simp only[zA,zB]at hb ⊢;obtain⟨rfl,rfl,rfl⟩:=hb;simp[e3]
  |some v=>simp only at*;rcases h1:wE v k2 with _|k;simp[h1]at hb;simp only[h1,zA,zB]at hb ⊢;obtain⟨rfl,rfl,rfl⟩:=hb;simp[(x? h1 (zF _)).2,e3]
def jg{x:Cx}{sz:Nat}:∀{l:X (X U)}{vs:X Value},gY x sz l vs->∀(i:Nat)(c:X U),l[i]? = some c->c.length=sz/\okL c=true/\c9 x c (vs.drop (i*sz))
 |[],vs,h,i,c,hc=>by simp at hc
 |d::l,vs,h,i,c,hc=>by
  simp only[gY]at h;cases i with
  |zero=>simp at hc;subst hc;exact⟨h.1,h.2.1,by simpa using h.2.2.1⟩|succ i=>simp at hc;have:=jg h.2.2.2 i c hc;rw[List.drop_drop]at this;rw[Nat.succ_mul,Nat.add_comm];exact this
def z2d{x:Cx}{sz:Nat}:∀{l:X (X U)}{vs:X Value},(∀(i:Nat)(c:X U),l[i]? = some c->c.length=sz/\okL c=true/\c9 x c (vs.drop (i*sz)))->gY x sz l vs
 |[],vs,h=>by simp[gY]
 |d::l,vs,h=>by simp only[gY];have h0:=h 0 d rfl;refine⟨h0.1,h0.2.1,by simpa using h0.2.2,z2d fun i c hc=>?_⟩;have:=h (i+1) c (by simpa using hc);rw[List.drop_drop];rw[Nat.succ_mul,Nat.add_comm]at this;exact this
def z4q{v12:Type}(l:X v12)(a h i:Nat):(tM l a h)[i]? = if a+i<h then l[a+i]? else none:=by unfold tM;rw[List.getElem?_drop,List.getElem?_take]
variable{a:Nat}
def qun{v12:Type}{l:X v12}(hh:h<=l.length):(tM l a h).length=h-a:=by simp[tM];omega
variable{x:Cx}
variable{sz:Nat}
def z67{l:X (X U)}{vs:X Value}(hr:gY x sz l vs):gY x sz (tM l a h) (vs.drop (a*sz)):=by refine z2d fun i c hc=>?_;rw[z4q]at hc;split at hc;have:=jg hr _ _ hc;rw[List.drop_drop];rw[Nat.add_mul]at this;exact this;cases hc
def z6v{l:X (X U)}(h:(l.all fun c=>Nat.beq c.length sz)=true):∀c∈l,c.length=sz:=fun c hc=>by
 have:=List.all_eq_true.1 h c hc;simpa[beq_eq]using this
def z2e{gM:Nat}{l:X (X U)}{vs:X Value}(hr:gY x sz l vs)(cR:l≠[])(h:(l.all fun c=>Nat.beq c.length gM)=true):sz=gM:=by rcases l with _|⟨c,l⟩;exact absurd rfl cR;rw[<-(jg hr 0 c rfl).1];exact z6v h c qq4
def jf{x:Cx}{sz:Nat}:∀{l:X (X U)}{vs:X Value},gY x sz l vs->l.length*sz<=vs.length
 |[],vs,h=>by simp
 |d::l,vs,h=>by simp only[gY]at h;have h1:=c9.len h.2.2.1;have h2:=jf h.2.2.2;rw[List.length_drop]at h2;rw[zO,Nat.succ_mul];omega
def qry{x:Cx}{sz:Nat}:∀{l:X (X U)}{vs:X Value},gY x sz l vs->bA x l.flatten (vs.take (l.length*sz))/\okL l.flatten=true
 |[],vs,h=>by simpa[okL]using bA.nil x
 |d::l,vs,h=>by
  have aQ:=jf h;simp only[gY]at h;obtain⟨h1,h2,h3,h4⟩:=h;obtain⟨g1,g2⟩:=qry h4;refine⟨?_,by simpa using S8 h2 g2⟩;have e:vs.take ((d::l).length*sz)=vs.take d.length++(vs.drop sz).take (l.length*sz):=by rw[zO,Nat.succ_mul,Nat.add_comm,List.take_add,h1]
  rw[e,List.flatten_cons];exact h3.takeE.append g1
def que(T:Tb)(x:Cx)(t:TypeId)(u:U)(va:Value)(lo hi:V Value):Prop :=
 (∃v,tN T t va lo hi=some v/\aC x u v)\/(tN T t va lo hi=none/\∃v,KR T x.s t va lo hi=some v/\aC x u v)\/ (tN T t va lo hi=none/\KR T x.s t va lo hi=none/\∃v,Gk T x.s t va lo hi=some (v,(bump x).s)/\aC (bump x) u v)
def wG{b:Nat}(h:a<b):Nat.blt a b=true:=Nat.ble_eq_true_of_le h
def RX{b:Nat}(h:¬ a<b):Nat.blt a b=false:=by rcases hb:Nat.blt a b with _|_;rfl;exact absurd (YM hb) h
variable{T:Tb}
variable{t:TypeId}
variable{e:TypeId}
variable{i:Nat}
variable{off:Nat}
def qmb(hd:T.und t=some (.slice e))(hs:cD T e=some sz)(eY:0<sz){d:Nat}{row:X Value}(hn:0<n)(fI:off=d*sz)(iU:KT x.s i sz=some row)
  (aQ:off+n*sz<=row.length) (hb:mV n n lo hi=some (l,h,m)):
  let va:=Value.slice (some ⟨i,off,none⟩) n (cV+d)
  tN T t va lo hi=none/\(if l<h\/l=0 then KR T x.s t va lo hi=some (.slice (some ⟨i,(d+l)*sz,none⟩) (h-l) (cV+(d+l)))
   else KR T x.s t va lo hi=none/\Gk T x.s t va lo hi=some (.slice (some ⟨x.s.nx,0,none⟩) 0 cV,(bump x).s)):=by
 have hc:Nat.blt (cV+d) cV=false:=RX qq0;obtain⟨n',rfl⟩:∃q,n=q+1:=⟨n-1,by omega⟩;have LY:cT (cV+d)=d:=by simp[cT]
 have hbig:n'+1<=(row.length-off)/sz:=by rw[Nat.le_div_iff_mul_le eY];omega
 obtain⟨b1,b2,b3,_⟩:=S3 hb hbig;have Db:Nat.ble (off+h*sz) row.length=true:=Nat.ble_eq_true_of_le (by have:h*sz<=(n'+1)*sz:=Nat.mul_le_mul_right _ b3;omega);refine⟨by simp[tN,hd,hc,emptyS],?_⟩;have xK:Nat.beq off (d*sz)=true:=by simp[fI]
 have iQ:Nat.blt 0 sz=true:=wG eY;cases l with
 |zero=>simp only[or_true,if_true];simp only[KR,Y0,hd,hc,zD,hs,iU,LY,xK,zC,iQ,b1,Db];simp[fI]|succ l=>
  by_cases aE:l+1<h;simp only[aE,true_or,if_true];simp only[KR,Y0,hd,hc,zD,hs,iU,LY,xK,zC,iQ,b1,Db,wG aE];simp[fI,Nat.add_mul,Nat.add_assoc];have:¬ (l+1<h\/l+1=0):=by omega
  simp only[this,if_false];simp only[KR,Gk,Y0,hd,hc,zD,hs,iU,LY,xK,zC,iQ,b1,Db,RX aE];simp[bump]
def qx9{s:S}{l:X Value}(h:lk s.h i=some (.inl (l,e,sz+2))):KT s i sz=some l:=by simp[KT,h]
def qx8{s:S}{l:X Value}(h:lk s.h i=some (.inl (l,sz+1,1))):KT s i sz=some l:=by simp[KT,h]
variable{iB:Nat}
def z2f{k st:Nat}(hr:aC x (.ptr k st off) v)(hi:x.I k=some i):aC x (.ptr k st iB) (.pointer (some ⟨i,iB,none⟩)):=by simp only[aC]at*;exact⟨rfl,hr.2.1,fun b hb=>⟨(hr.2.2 b hb).1,fun _=>⟨i,hi,rfl⟩⟩⟩
def Od{k st n':Nat}{l:X U}{v':Value}(hr:aC x (.vl k st off n) v)(hb:gt x.Y.h k=some (.vec l e sz st))(h1:v'.oneCell'=true)(h:K9 iB n' v' sz (x.I k)):aC x (.vl k st iB n') v':=by simp only[aC]at*;refine⟨h1,hr.2.1,fun b cK=>⟨(hr.2.2 b cK).1,fun _=>?_⟩⟩;rw[hb]at cK;cases cK;exact⟨l,e,sz,rfl,h⟩
def JI:Nat.blt 0 cV=true:=wG (by simp[cV])
def w?(hb:mV 0 0 lo hi=some (l,h,m)):l=0/\h=0/\m=0:=by obtain⟨_,b2,b3,b4⟩:=S3 hb (zF _);omega
def na{c:Nat}{t:PE}{l:X (X U)}{row:X Value}(hg:lk x.s.h i=some (.inl (row,e,1)))(hr:gY x sz l (row.drop off))(hh:h<=l.length)(fI:a<h->iB=off+a*sz)
  (ht:t=true->c=h-a/\c<cV) (hc:a<h->(c<cV/\h-a<=c)\/(cV<=c/\e=sz+1/\0<sz/\iB=cT c*sz)):aC x (.isl t (tM l a h)) (.slice (some ⟨i,iB,none⟩) (h-a) c):=by
 have aQ:=qun (a:=a) hh;simp only[aC];refine .inr ⟨i,iB,c,by rw[aQ],by rw[aQ];exact ht,?_⟩;by_cases aE:a<h;have e1:row.drop iB=(row.drop off).drop (a*sz):=by rw[List.drop_drop,fI aE]
 have Cz:=z67 (a:=a) (h:=h) hr;rw[<-e1]at Cz;refine .inr ⟨row,e,sz,hg,Cz,?_⟩;rw[aQ];rcases hc aE with hc |⟨c1,c2,c3,c4⟩;exact .inl hc;refine .inr ⟨c1,c2,c3,c4,?_⟩;have:=jf Cz;rw[aQ,List.length_drop]at this;have iQ:0<(h-a)*sz:=Nat.mul_pos qq0 c3;omega;exact .inl (List.eq_nil_of_length_eq_zero (by rw[aQ];omega))
def z2v(hd:T.und t=some (.slice e))(hs:cD T e=some sz){tt:PE}{l:X (X U)}{u:U}{va:Value}(bY:(l.all fun c=>Nat.beq c.length sz)=true)
  (hb:mV l.length l.length lo hi=some (a,h,m)) (hu:u=.isl (cond tt (Nat.beq h l.length) false) (tM l a h)) (ha:aC x (.isl tt l) va):que T x t u va lo hi:=by
 simp only[aC]at ha;rcases ha with⟨rfl,rfl |⟨r,rfl⟩⟩|⟨i,off,c,rfl,ht,eA⟩;obtain⟨rfl,rfl,rfl⟩:=w? hb;refine .inl ⟨.slice none 0 0,by simp only[zS]at hb;simp[tN,hd,hb,hs,JI],?_⟩;subst hu;simp[aC,tM];obtain⟨rfl,rfl,rfl⟩:=w? hb;refine .inl ⟨.chan (some r),by simp only[zS]at hb;simp[tN,hd,hb,hs],?_⟩;subst hu;simp[aC,tM];by_cases cR:l=[];subst cR;obtain⟨rfl,rfl,rfl⟩:=w? hb;simp only[zS]at hb ht;have fin:∀(t':PE)(iB c':Nat),(t'=true->c'=0)->aC x (.isl t' (tM [] 0 0)) (.slice (some ⟨i,iB,none⟩) 0 c'):=fun t' iB c' h1=>by simp only[aC];exact .inr ⟨i,iB,c',by simp[tM],fun h=>by rw[h1 h];simp[tM,cV],.inl (by simp[tM])⟩
 by_cases hc:c<cV;simp only[zS]at hu;subst hu;obtain⟨b1,_⟩:=S3 hb (Nat.zero_le c);have B7:(cond tt (Nat.beq 0 0) false=true)->c=0:=fun h=>(ht (by cases tt<;>simp_all)).1;cases uI:Nat.beq c 0 with
 |true=>exact .inl ⟨_,by simp only[zS,tN,hd,wG hc,zC,b1,hs,uI]<;>rfl,fin _ off c B7⟩|false=>exact .inl ⟨_,by simp only[zS,tN,hd,wG hc,zC,zD,b1,hs,uI]<;>rfl,fin _ _ c B7⟩
 simp only[zS]at hu;subst hu;exact .inl ⟨_,by simp only[zS,tN,hd,RX hc,zD,emptyS,hb,hs]<;>rfl,fin _ off c (fun h=>absurd (ht (by cases tt<;>simp_all)).2 hc)⟩;rcases eA with eA |⟨row,e',gM,g1,g2,g3⟩;exact absurd eA cR;have eY:=z2e g2 cR bY;subst eY;have iQ:0<l.length:=by cases l<;>simp_all
 rcases g3 with⟨hc,bc⟩|⟨hc,he,hz,fI,aQ⟩;subst hu;obtain⟨b1,b2,b3,b4⟩:=S3 hb bc;have B7:(cond tt (Nat.beq h l.length) false=true)->c-a=h-a/\c-a<cV:=fun hh=>by rcases tt with _|_;simp at hh;simp at hh;have:=(ht rfl).1;omega
 cases uI:Nat.beq c a with
 |true=>
  have:c=a:=by simpa[beq_eq]using uI
  exact .inl ⟨_,by simp only[tN,hd,wG hc,zC,b1,hs,uI]<;>rfl,na g1 g2 b3 (fun h1=>qq0) B7 (fun h1=>qq0)⟩
 |false=>exact .inl ⟨_,by simp only[tN,hd,wG hc,zC,zD,b1,hs,uI]<;>rfl,na g1 g2 b3 (fun h1=>rfl) B7 (fun h1=>.inl qq0)⟩
 obtain⟨d,rfl⟩:∃d,c=cV+d:=⟨c-cV,by omega⟩;have LY:cT (cV+d)=d:=by simp[cT]
 rw[LY]at fI;subst he;have htt:tt=false:=by rcases tt with _|_;rfl;exact absurd (ht rfl).2 qq0
 subst htt;simp only[zD]at hu;subst hu;obtain⟨b1,b2,b3,b4⟩:=S3 hb (zF _);obtain⟨s1,s2⟩:=qmb hd hs hz (i:=i) (n:=l.length) (d:=d) iQ fI (qx8 g1) aQ hb;split at s2;exact .inr (.inl ⟨s1,_,s2,na g1 g2 b3 (fun _=>by rw[fI,Nat.add_mul]) (fun h=>by cases h) (fun _=>.inr ⟨by omega,rfl,hz,by simp[cT]⟩)⟩);refine .inr (.inr ⟨s1,s2.1,_,s2.2,?_⟩);have hn:(tM l a h)=[]:=List.eq_nil_of_length_eq_zero (by rw[qun b3];omega);rw[hn];simp only[aC];exact .inr ⟨x.s.nx,0,cV,rfl,(fun h=>by cases h),.inl trivial⟩
def z2w(hx:iZ x){a u:U}{va:Value}(h:RB T x.Y t a lo hi=some u)(ha:aC x a va):que T x t u va lo hi:=by
 unfold RB at h;rcases hd:T.und t with _|d;simp[hd]at h;cases d with
 |slice e=>
  simp only[hd]at h;rcases hs:cD T e with _|sz;simp[hs]at h;simp only[hs]at h;cases a with
  |vl k st off n=>
   simp only at h;rcases hv:oA x.Y k st with _|q;simp[hv]at h;obtain⟨r,e',gM⟩:=q;obtain⟨hg,hl⟩:=c? hv;simp only[hv,beq_eq]at h;by_cases hz:gM=sz;subst hz;simp only[yC,zC]at h;rcases hb:mV n n lo hi with _|q;simp[hb]at h;obtain⟨l,hh,m⟩:=q;simp only[hb]at h;split at h;rename_i aQ;simp only[zA]at h;subst h;obtain⟨l0,e0,Nn,sN,tB⟩:=Gx hl ha;have hgg:(some (B.vec r e' gM st))=some (.vec l0 e0 Nn st):=hg.symm.trans sN;cases hgg;obtain⟨_,k1,k2,h3⟩:=hx.ok k _ hg;have zero:∀o c,n=0->va=.slice o 0 c->(∀a,o=some a->a.spot=none)->(o=none->c=0)->∃o' c',tN T t va lo hi=some (.slice o' 0 c')/\(c=0->c'=0)/\(∀a,o'=some a->a.spot=none)/\(o=none->o'=none)/\(∀a,o=some a->∃a',o'=some a')/\(¬ c<cV->o'=o/\c'=c):=by
    rintro o c rfl rfl wU ho;obtain⟨b1,b2,b3,b4⟩:=S3 hb (Nat.zero_le c);obtain rfl:hh=0:=by omega
    obtain rfl:l=0:=by omega
    by_cases hc:c<cV;rcases o with _|a;exact⟨none,c,by simp[tN,hd,wG hc,b1,hs],by simp,by simp,by simp,by simp,fun hn=>absurd hc hn⟩;rcases uI:Nat.beq c 0 with _|_;exact⟨some ⟨a.block,a.off+0*gM,none⟩,c,by simp only[tN,hd,wG hc,b1,hs,uI,zC,zD,Nat.sub_zero],by simp,by simp,by simp,by simp,fun hn=>absurd hc hn⟩;exact⟨some a,c,by simp only[tN,hd,wG hc,b1,hs,uI,zC,Nat.sub_zero],by simp,by simpa using wU a rfl,by simp,by simp,fun hn=>absurd hc hn⟩;rcases o with _|a;exact absurd (by rw[ho rfl];simp[cV]) hc;obtain rfl:m=0:=by omega
    exact⟨some a,c,by simp only[tN,hd,RX hc,zD,emptyS,hb,hs],by simp,by simpa using wU a rfl,by simp,by simp,fun _=>⟨rfl,rfl⟩⟩
   have FS:n=0->l=0/\hh=0:=fun gz=>by obtain⟨b1,b2,b3,b4⟩:=S3 hb (zF _);omega
   rcases h3 with⟨hr0,jI⟩|⟨i,l',e1,e2,e3⟩;rw[jI]at tB;obtain⟨rfl,rfl,o,rfl,wU⟩:=tB;obtain⟨rfl,rfl⟩:=FS rfl;obtain⟨o',c',q1,q2,q3,q4,q5,q6⟩:=zero o 0 rfl rfl wU (fun _=>rfl);rw[q2 rfl]at q1;exact .inl ⟨_,q1,Od ha hg rfl (by rw[jI];exact⟨rfl,rfl,o',rfl,q3⟩)⟩;rw[e1]at tB;rcases tB with⟨h0,rfl,a,c,rfl,wU⟩|rfl;obtain⟨rfl,rfl⟩:=FS rfl;obtain⟨o',c',q1,q2,q3,q4,q5,q6⟩:=zero (some a) c rfl rfl (by simpa using wU) qq4;obtain⟨a',rfl⟩:=q5 a rfl;exact .inl ⟨_,q1,Od ha hg rfl (by rw[e1];exact .inl ⟨by omega,rfl,a',c',rfl,q3 a' rfl⟩)⟩;by_cases hn:n=0;subst hn;obtain⟨rfl,rfl⟩:=FS rfl;obtain⟨o',c',q1,q2,q3,q4,q5,q6⟩:=zero (some ⟨i,off*gM,none⟩) (cV+off) rfl rfl qq4 qq4;obtain⟨rfl,rfl⟩:=q6 qq0;exact .inl ⟨_,q1,Od ha hg rfl (by rw[e1];exact .inr rfl)⟩;have:=qmb hd hs k2 (i:=i) (n:=n) (d:=off) qq0 rfl (qx9 e2) (by rw[<-e3.2,<-Nat.add_mul];exact aQ) hb;obtain⟨s1,s2⟩:=this;split at s2;exact .inr (.inl ⟨s1,_,s2,Od ha hg rfl (by rw[e1];exact .inr rfl)⟩);rename_i aE;obtain⟨b1,b2,b3,b4⟩:=S3 hb (zF _);refine .inr (.inr ⟨s1,s2.1,_,s2.2,?_⟩);have cK:=B_ ha;have hz0:hh-l=0:=by omega
   rw[hz0];exact Od (x:=bump x) cK hg rfl (by show K9 _ _ _ _ (x.I k);rw[e1];exact .inl ⟨by omega,rfl,_,_,rfl,rfl⟩);cases h;simp[hz]at h
  |isl tt l=>simp only at h;split at h;rename_i bY;rcases hb:mV l.length l.length lo hi with _|q;simp[hb]at h;obtain⟨a,hh,m⟩:=q;simp only[hb]at h;simp only[zA]at h;exact z2v hd hs (tt:=tt) bY hb h.symm ha;cases h
  |_=>simp at h
 |_=>simp[hd]at h
variable{T:Tb}
variable{x:Cx}
variable{a:U}
variable{u:U}
variable{va:Value}
def qsu{st:TypeId}{f:Nat}(h:Pl T x.Y st a f=some u)(ha:aC x a va):∃v,Pk T st va f=some v/\aC x u v:=by
 unfold Pl at h;unfold Pk;rcases hd:T.und st with _|d;simp[hd]at h;cases d with
 |struct fs=>
  simp only[hd]at h ⊢;rcases hf:nth fs.toList f with _|fd;simp[hf]at h;simp only[hf]at h ⊢;rcases hs:cD T fd.type with _|n;simp[hs]at h;cases n with
  |zero=>simp[hs]at h|succ n=>
   simp only[hs]at h;cases a with
   |ptr k s off=>simp only at h;rcases hl:live x.Y k s with _|_;simp[hl]at h;simp only[hl,zC,zA]at h;subst h;obtain⟨i,hi,rfl⟩:=YI hl ha;exact⟨_,rfl,z2f ha hi⟩
   |iptr l=>simp only[zA]at h;subst h;simp only[aC]at ha;obtain⟨i,off,row,e,rfl,h2,h3,h4⟩:=ha;refine⟨_,rfl,?_⟩;simp only[aC];exact⟨i,off+fd.offset,row,e,rfl,h2,by rw[<-List.drop_drop];exact h3.drop _,FG h4 _⟩
   |_=>simp at h
 |_=>simp[hd]at h
def qzf{st:TypeId}{f:Nat}(h:fx T st a f=some u)(ha:aC x a va):∃v,Og T st va f=some v/\aC x u v:=by
 unfold fx at h;unfold Og;rcases hd:T.und st with _|d;simp[hd]at h;cases d with
 |struct fs=>
  simp only[hd]at h ⊢;rcases hf:nth fs.toList f with _|fd;simp[hf]at h;simp only[hf]at h ⊢;cases a with
  |agg cs=>simp only[aC]at ha;obtain⟨vs,rfl,h1,h2,h3⟩:=ha;exact qw5 h ⟨h1,h2⟩ h3
  |_=>simp at h
 |_=>simp[hd]at h
def KS{i:Int}{n:Nat}(h:0<=i/\i<n):sL i n=true:=by
 unfold sL;cases i with
 |ofNat k=>exact wG (by have:=h.2;simp at this;exact this)|negSucc k=>have:=h.1;omega
variable{t:TypeId}
def qsz(hx:iZ x){b:U}{vb:Value}(h:C5 T x.Y t a b=some u)(ha:aC x a va)(hb:aC x b vb):∃v,Pg T t va vb=some v/\aC x u v:=by
 unfold C5 at h;cases b with
 |int k i=>
  simp only[aC]at hb;subst hb;simp only[Pg];simp only at h;rcases hd:T.und t with _|d;simp[hd]at h;cases d with
  |slice e=>
   simp only[hd]at h;rcases hs:cD T e with _|sz;simp[hs]at h;simp only[hs]at h;cases a with
   |sl k off n c=>simp only at h;rcases hl:live x.Y k 0 with _|_;simp[hl]at h;simp only[hl,zC]at h;split at h;rename_i jA;simp only[zA]at h;subst h;obtain⟨i',hi,rfl,_⟩:=Gy hl ha;refine⟨_,by simp only[KS jA,zC,hs]<;>rfl,?_⟩;obtain⟨b,q1,q2⟩:=Pq hl;simp only[aC]at ha ⊢;exact⟨rfl,ha.2.1,fun b hb=>⟨Nat.zero_le _,fun _=>⟨i',hi,rfl⟩⟩⟩;cases h
   |vl k st off n=>simp only at h;rcases hv:oA x.Y k st with _|q;simp[hv]at h;obtain⟨l,e',gM⟩:=q;obtain⟨hg,hl⟩:=c? hv;simp only[hv,beq_eq]at h;by_cases hz:gM=sz;subst hz;simp only[yC,zC]at h;split at h;rename_i jA;simp only[zA]at h;subst h;obtain⟨i',l0,e0,Nn,l',h1,h2,rfl,h4,h5,h6,h7⟩:=rz hx hl ha qq0;have:=hg.symm.trans h1;cases this;refine⟨_,by simp only[KS ⟨jA.1,jA.2.1⟩,zC,hs]<;>rfl,?_⟩;simp only[aC]at ha ⊢;refine⟨rfl,ha.2.1,fun b hb=>⟨(ha.2.2 b hb).1,fun _=>⟨i',h2,rfl⟩⟩⟩;cases h;simp[hz]at h
   |isl tt l=>simp only at h;split at h;rename_i jA;rcases hc:l[i.toNat]? with _|c;simp[hc]at h;simp only[hc,beq_eq]at h;by_cases hz:c.length=sz;simp only[hz,yC,zC,zA]at h;subst h;simp only[aC]at ha;rcases ha with⟨rfl,_⟩|⟨i',off,c',rfl,ht,eA⟩;simp at hc;rcases eA with rfl |⟨row,e',gM,g1,g2,g3⟩;simp at hc;obtain⟨q1,q2,q3⟩:=jg g2 _ _ hc;refine⟨_,by simp only[KS jA,zC,hs]<;>rfl,?_⟩;simp only[aC];refine⟨i',off+i.toNat*sz,row,e',rfl,g1,?_,q2⟩;rw[List.drop_drop]at q3;rw[<-hz,q1];exact q3;simp[hz]at h;cases h
   |_=>simp at h
  |array n e=>
   simp only[hd]at h;rcases hs:cD T e with _|sz;simp[hs]at h;simp only[hs]at h;cases a with
   |ptr k st off=>simp only at h;rcases hl:live x.Y k st with _|_;simp[hl]at h;simp only[hl,zC]at h;split at h;rename_i jA;simp only[zA]at h;subst h;obtain⟨i',hi,rfl⟩:=YI hl ha;exact⟨_,by simp only[KS jA,zC,hs]<;>rfl,z2f ha hi⟩;cases h
   |iptr l=>simp only at h;split at h;rename_i jA;simp only[zA]at h;subst h;simp only[aC]at ha;obtain⟨i',off,row,e',rfl,h2,h3,h4⟩:=ha;refine⟨_,by simp only[KS jA,zC,hs]<;>rfl,?_⟩;simp only[aC];exact⟨i',_,row,e',rfl,h2,by rw[<-List.drop_drop];exact h3.drop _,FG h4 _⟩;cases h
   |_=>simp at h
  |_=>simp[hd]at h
 |_=>simp at h
def qzz{b:U}{vb:Value}(h:wt T t a b=some u)(ha:aC x a va)(hb:aC x b vb):∃v,Y4 T t va vb=some v/\aC x u v:=by
 unfold wt at h;cases a with
 |agg cs=>
  simp only at h;cases b with
  |int k i=>
   simp only[aC]at ha hb;subst hb;obtain⟨vs,rfl,h1,h2,h3⟩:=ha;simp only at h;rcases hd:T.und t with _|d;simp[hd]at h;cases d with
   |array n e=>simp only[hd]at h;split at h;rename_i jA;rcases hs:cD T e with _|sz;simp[hs]at h;simp only[hs]at h;obtain⟨v,q1,q2⟩:=qw5 h ⟨h1,h2⟩ h3;exact⟨v,by simp only[Y4,hd,KS jA,zC,hs];exact q1,q2⟩;cases h
   |_=>simp[hd]at h
  |_=>simp at h
 |_=>exact U6 h ha hb
def z9j(hx:iZ x)(h:w6 T x.Y t a=some u)(ha:aC x a va):
  ∃v,HK T t va=some v/\aC x u v:=by
 unfold w6 at h;unfold HK;rcases hd:T.und t with _|d;simp[hd]at h;cases d with
 |string=>
  simp only[hd]at h ⊢;cases a with
  |str s=>simp only[zA]at h;subst h;simp only[aC]at ha;subst ha;exact⟨_,rfl,by simp[aC]⟩|_=>simp at h
 |slice e=>
  simp only[hd]at h ⊢;cases a with
  |nils=>simp only[zA]at h;subst h;simp only[aC]at ha;subst ha;exact⟨_,rfl,by simp[aC]⟩|sl k off n c=>simp only at h;rcases hl:live x.Y k 0 with _|_;simp[hl]at h;simp only[hl,zC,zA]at h;subst h;obtain⟨i,_,rfl,_⟩:=Gy hl ha;exact⟨_,rfl,by simp[aC]⟩
  |vl k st off n=>simp only at h;rcases hl:live x.Y k st with _|_;simp[hl]at h;simp only[hl,zC,zA]at h;subst h;obtain⟨_,_,_,_,hv⟩:=Gx hl ha;obtain⟨o,c,rfl⟩:=z8m hv;exact⟨_,rfl,by simp[aC]⟩
  |isl tt l=>simp only[zA]at h;subst h;simp only[aC]at ha;rcases ha with⟨rfl,rfl |⟨_,rfl⟩⟩|⟨_,_,_,rfl,_⟩<;>exact⟨_,rfl,by simp[aC]⟩
  |_=>simp at h
 |array n e=>simp only[hd]at h ⊢;cases a<;>simp at h<;>subst h<;>exact⟨_,rfl,by simp[aC]⟩|_=>simp[hd]at h
def z5y(hx:iZ x){tm:X U}{tv:X Value}(ht:bA x tm tv){op:Op}(h:i4 T x.Y tm op=some u):rZ T x tv op u x.Y:=by
 have one:∀v,jN T tv op=some v->aC x u v->rZ T x tv op u x.Y:=fun v h1 h2=>rZ.same hx (z5n h1) h2;unfold i4 at h;cases op with
 |move o=>obtain⟨v,h1,h2⟩:=jF ht h;exact one v (by simp[jN,h1]) h2
 |assign o=>obtain⟨v,h1,h2⟩:=jF ht h;exact one v (by simp[jN,h1]) h2
 |pick c a b=>
  simp only at h;rcases hc:cG tm c with _|cu;simp[hc]at h;obtain⟨cv,c1,c2⟩:=jF ht hc;cases cu with
  |bool t=>
   simp only[aC]at c2;subst c2;cases t with
   |true=>simp only[hc]at h;obtain⟨v,h1,h2⟩:=jF ht h;exact one v (by simp[jN,c1,h1]) h2
   |false=>simp only[hc]at h;obtain⟨v,h1,h2⟩:=jF ht h;exact one v (by simp[jN,c1,h1]) h2
  |_=>simp[hc]at h
 |build t ps=>simp only at h;rcases hp:yM tm ps.toList with _|qs;simp[hp]at h;simp only[hp]at h;obtain⟨vs,h1,h2⟩:=Y_ ht hp;obtain⟨v,h3,h4⟩:=qyv h h2;exact one v (by simp[jN,h1,h3]) h4
 |nilCheck o=>
  simp only at h;rcases ho:cG tm o with _|a;simp[ho]at h;obtain⟨va,a1,a2⟩:=jF ht ho;cases a with
  |ptr k st off=>simp only[ho]at h;rcases hl:live x.Y k st with _|_;simp[hl]at h;simp only[hl,zC,zA]at h;subst h;obtain⟨i,hi,rfl⟩:=YI hl a2;exact one _ (by simp[jN,a1]) a2
  |iptr l=>simp only[ho,zA]at h;subst h;have a3:=a2;simp only[aC]at a2;obtain⟨i,off,row,e,rfl,_⟩:=a2;exact one _ (by simp[jN,a1]) a3
  |fn f p q=>
   cases f with
   |func g=>simp only[ho,zA]at h;subst h;have a3:=a2;simp only[aC]at a2;obtain⟨i,off,rfl,_⟩:=a2;exact one _ (by simp[jN,a1]) a3
   |_=>simp[ho]at h
  |_=>simp[ho]at h
 |binOp o t a b ty=>simp only at h;rcases ha:cG tm a with _|au;simp[ha]at h;rcases hb:cG tm b with _|bu;simp[ha,hb]at h;simp only[ha,hb]at h;obtain⟨va,a1,a2⟩:=jF ht ha;obtain⟨vb,b1,b2⟩:=jF ht hb;obtain⟨v,h1,h2⟩:=z8t hx h a2 b2;exact one v (by simp[jN,a1,b1,h1]) h2
 |unOp o t a=>simp only at h;rcases ha:cG tm a with _|au;simp[ha]at h;simp only[ha]at h;obtain⟨va,a1,a2⟩:=jF ht ha;obtain⟨v,h1,h2⟩:=U7 h a2;exact one v (by simp[jN,a1,h1]) h2
 |convert s d a=>simp only at h;rcases ha:cG tm a with _|au;simp[ha]at h;simp only[ha]at h;obtain⟨va,a1,a2⟩:=jF ht ha;obtain⟨v,h1,h2⟩:=U7 h a2;exact one v (by simp[jN,a1,h1]) h2
 |makeFunc f a b=>simp only at h;rcases ha:oC tm a.toList with _|au;simp[ha]at h;rcases hb:oC tm b.toList with _|bu;simp[ha,hb]at h;simp only[ha,hb,zA]at h;subst h;obtain⟨va,a1,a2⟩:=YO ht ha;obtain⟨vb,b1,b2⟩:=YO ht hb;exact one _ (by simp[jN,a1,b1]<;>rfl) (by simp only[aC];exact⟨va,vb,rfl,a2.1,a2.2,b2.1,b2.2⟩)
 |slice t a lo hi mx=>
  cases mx with|some _=>simp at h|none=>
  simp only at h;rcases ha:cG tm a with _|au;simp[ha]at h;rcases h1:AP tm lo with _|lo';simp[ha,h1]at h;rcases h2:AP tm hi with _|i5;simp[ha,h1,h2]at h;simp only[ha,h1,h2]at h;obtain⟨va,a1,a2⟩:=jF ht ha;have e1:=qqp ht h1;have e2:=qqp ht h2;rcases z2w hx h a2 with⟨v,s1,s2⟩|⟨s0,v,s1,s2⟩|⟨s0,s1,v,s2,s3⟩;exact one v (by simp[jN,a1,e1,e2,s1]) s2;exact rZ.same hx (o_ (by simp[jN,a1,e1,e2,s0]) (by simp[v6,a1,e1,e2,s1])) s2;exact⟨v,bump x,qvs (by simp[jN,a1,e1,e2,s0]) (by simp[v6,a1,e1,e2,s1]) (by simp[AE,a1,e1,e2,s2]),rfl,s3,z4d hx⟩
 |fieldAddr t a f=>simp only at h;rcases ha:cG tm a with _|au;simp[ha]at h;simp only[ha]at h;obtain⟨va,a1,a2⟩:=jF ht ha;obtain⟨v,h1,h2⟩:=qsu h a2;exact one v (by simp[jN,a1,h1]) h2
 |field t a f=>simp only at h;rcases ha:cG tm a with _|au;simp[ha]at h;simp only[ha]at h;obtain⟨va,a1,a2⟩:=jF ht ha;obtain⟨v,h1,h2⟩:=qzf h a2;exact one v (by simp[jN,a1,h1]) h2
 |indexAddr t a b=>simp only at h;rcases ha:cG tm a with _|au;simp[ha]at h;rcases hb:cG tm b with _|bu;simp[ha,hb]at h;simp only[ha,hb]at h;obtain⟨va,a1,a2⟩:=jF ht ha;obtain⟨vb,b1,b2⟩:=jF ht hb;obtain⟨v,h1,h2⟩:=qsz hx h a2 b2;exact one v (by simp[jN,a1,b1,h1]) h2
 |index t a b=>simp only at h;rcases ha:cG tm a with _|au;simp[ha]at h;rcases hb:cG tm b with _|bu;simp[ha,hb]at h;simp only[ha,hb]at h;obtain⟨va,a1,a2⟩:=jF ht ha;obtain⟨vb,b1,b2⟩:=jF ht hb;obtain⟨v,h1,h2⟩:=qzz h a2 b2;exact one v (by simp[jN,a1,b1,h1]) h2
 |extract a i=>
  simp only at h;rcases ha:cG tm a with _|au;simp[ha]at h;simp only[ha]at h;obtain⟨va,a1,a2⟩:=jF ht ha;cases au with
  |tup l=>simp only[aC]at a2;obtain⟨vs,rfl,q1,q2⟩:=a2;simp only[jo,kK]at h;obtain⟨v,h1,h2⟩:=(show bA x l vs from⟨q1,q2⟩).get h;exact one v (by simp[jN,a1,Hr,kK,h1]) h2
  |_=>simp[jo]at h
 |call c=>
  simp only at h;obtain⟨callee,args,ats⟩:=c;cases callee with
  |builtin b=>
   cases b with
   |len=>
    simp only at h;rcases ha:oC tm args.toList with _|us;simp[ha]at h;obtain⟨vs,a1,a2⟩:=YO ht ha;rcases Dd:ats.toList with _|⟨t,ts⟩;simp[ha,Dd]at h;rcases us with _|⟨a,l⟩;simp[ha]at h;cases l with
    |cons _ _=>simp[ha]at h|nil=>obtain⟨va,sS,rfl,r1,r2⟩:=a2.inv;rw[r2.nil_inv]at a1;simp only[ha,Dd]at h;obtain⟨v,q1,q2⟩:=z9j hx h r1;exact one v (by simp[jN,a1,Dd,q1]) q2
   |max=>simp only at h;rcases ha:oC tm args.toList with _|us;simp[ha]at h;obtain⟨vs,a1,a2⟩:=YO ht ha;rcases us with _|⟨a,l⟩;simp[ha]at h;obtain⟨va,sS,rfl,r1,r2⟩:=a2.inv;simp only[ha]at h;rcases h1:toV a with _|v1;simp[h1]at h;rcases h2:lL l with _|v2;simp[h1,h2]at h;simp only[h1,h2]at h;have e1:=(KU a v1 h1 x va).1 r1;have e2:=(NE l v2 h2 x sS).1 r2;subst e1;subst e2;rcases h3:wC R8 va sS with _|r;simp[h3]at h;simp only[h3]at h;exact one r (by simp[jN,a1,h3]) ((v03 r u h).2 x)
   |min=>simp only at h;rcases ha:oC tm args.toList with _|us;simp[ha]at h;obtain⟨vs,a1,a2⟩:=YO ht ha;rcases us with _|⟨a,l⟩;simp[ha]at h;obtain⟨va,sS,rfl,r1,r2⟩:=a2.inv;simp only[ha]at h;rcases h1:toV a with _|v1;simp[h1]at h;rcases h2:lL l with _|v2;simp[h1,h2]at h;simp only[h1,h2]at h;have e1:=(KU a v1 h1 x va).1 r1;have e2:=(NE l v2 h2 x sS).1 r2;subst e1;subst e2;rcases h3:wC R7 va sS with _|r;simp[h3]at h;simp only[h3]at h;exact one r (by simp[jN,a1,h3]) ((v03 r u h).2 x)
   |_=>simp at h
  |_=>simp at h
 |_=>simp at h
def qvg{l:X U}{off:Nat}{lv:X Value}(h:F6 T t l off=some u)(hl:c9 x l lv)(hk:okL l=true):
  ∃v,(match T.und t with
    |none=>none|some d=>cond (qE d) (match cD T t with
      |some n=>match uV lv off n with
       |some cs=>some (.agg cs.toArray)|none=>none
      |none=>none) (nth lv off))=some v/\aC x u v:=by
 unfold F6 at h;rcases hd:T.und t with _|d;simp[hd]at h;simp only[hd]at h ⊢;cases ha:qE d with
 |true=>
  simp only[ha,zC]at h ⊢;rcases hs:cD T t with _|n;simp[hs]at h;simp only[hs]at h ⊢;rcases hg:kY l off n with _|cs;simp[hg]at h;simp only[hg,zA]at h;subst h;obtain⟨h1,rfl⟩:=S4 hg;have aQ:=c9.len hl;rw[wc qq0];refine⟨_,rfl,?_⟩;simp only[aC];have:=(hl.drop off).takeE;have e1:bA x ((l.drop off).take n) ((lv.drop off).take n):=by refine bA.mk' (by simp;omega) fun i u hu=>?_;rw[List.getElem?_take]at hu ⊢;split at hu;rename_i aE;simp only[aE,if_true];exact(H7 x _ _).1 (hl.drop off) i u hu;cases hu
  exact⟨_,rfl,e1.1,e1.2,YH (FG hk _) _⟩
 |false=>simp only[ha,zD,kK]at h ⊢;exact(H7 x _ _).1 hl _ _ h
def qji(hx:iZ x){k st:Nat}{l:X U}(h:cellsOf x.Y k st=some l){off:Nat}{v:Value}(hr:aC x (.ptr k st off) v):
  ∃i lv e md,x.I k=some i/\v=.pointer (some ⟨i,off,none⟩)/\lk x.s.h i=some (.inl (lv,e,md))/\md≠1/\bA x l lv/\okL l=true/\
   ((md=0/\gt x.Y.h k=some (.row l e))\/(∃sz,md=sz+2/\0<sz/\gt x.Y.h k=some (.vec l e sz st))):=by
 unfold cellsOf at h;rcases hg:gt x.Y.h k with _|b;simp[hg]at h;cases b with
 |row l' e=>simp only[hg,beq_eq]at h;by_cases dC:0=st;subst dC;simp at h;subst h;obtain⟨i,hi,rfl⟩:=YI (x:=x) (by simp[live,hg,B.st]) hr;obtain⟨_,k1,i',lv,e1,e2,e3⟩:=hx.ok k _ hg;rw[hi]at e1;cases e1;exact⟨i,lv,e,0,hi,rfl,e2,by omega,e3,k1,.inl ⟨rfl,rfl⟩⟩;simp[dC]at h
 |vec l' e sz bJ=>simp only[hg,beq_eq]at h;by_cases dC:bJ=st;subst dC;simp at h;subst h;obtain⟨i,hi,rfl⟩:=YI (x:=x) (by simp[live,hg,B.st]) hr;obtain⟨_,k1,k2,h3⟩:=hx.ok k _ hg;rcases h3 with⟨h4,h5⟩|⟨i',lv,e1,e2,e3⟩;rw[hi]at h5;cases h5;rw[hi]at e1;cases e1;exact⟨i,lv,e,sz+2,hi,rfl,e2,by omega,e3,k1,.inr ⟨sz,rfl,k2,rfl⟩⟩;simp[dC]at h
 |map es cl=>simp[hg]at h
def qwb(hx:iZ x){tm:X U}{tv:X Value}(ht:bA x tm tv){op:Op}(h:qX T x.Y tm op=some u):rZ T x tv op u x.Y:=by
 unfold qX at h;cases op with
 |load t o=>
  simp only at h;rcases ho:cG tm o with _|a;simp[ho]at h;obtain⟨va,a1,a2⟩:=jF ht ho;cases a with
  |ptr k st off=>simp only[ho]at h;rcases hc:cellsOf x.Y k st with _|l;simp[hc]at h;simp only[hc]at h;obtain⟨i,lv,e,md,q1,rfl,q2,_,q3,q4,_⟩:=qji hx hc a2;obtain⟨v,r1,r2⟩:=qvg h q3.1 q4;exact rZ.same hx (o_ (by simp[jN]) (by simp only[v6,a1,q2];exact r1)) r2
  |iptr l=>
   simp only[ho]at h;simp only[aC]at a2;obtain⟨i,off,row,e,rfl,g1,g2,g3⟩:=a2;obtain⟨v,r1,r2⟩:=qvg h g2 g3;refine rZ.same hx (o_ (by simp[jN]) (v:=v) ?_) r2;simp only[v6,a1,g1];rcases hd:T.und t with _|d;simp[hd]at r1;simp only[hd]at r1 ⊢;cases ha:qE d with
   |true=>simp only[ha,zC]at r1 ⊢;rcases hs:cD T t with _|n;simp[hs]at r1;simp only[hs,uV,List.drop_drop,Nat.add_zero]at r1 ⊢;exact r1
   |false=>simp only[ha,zD,kK,List.getElem?_drop,Nat.add_zero]at r1 ⊢;exact r1
  |_=>simp[ho]at h
 |_=>simp at h
variable{x:Cx}
variable{k:Nat}
variable{b:B}
def nO.mono{y:Cx}(h:nO x k b)(hm:Mo x.Y.nx x y)(jI:y.I k=x.I k)(hl:∀i c,x.I k=some i->lk x.s.h i=some c->lk y.s.h i=some c):nO y k b:=by
 have relm:∀{es:X ME}{es':X MapEntry},w8 x es es'->w8 y es es':=fun{es es'} e3=>⟨e3.1,fun j e he=>by obtain⟨v,q1,q2,q3,q4⟩:=e3.2 j e he;exact⟨v,q1,hm.ke _ _ (aC.bel _ _ q2) q2,hm.ke _ _ (aC.bel _ _ q3) q3,q4⟩⟩;cases b with
 |row l e=>obtain⟨k1,i,l',e1,e2,e3⟩:=h;exact⟨k1,i,l',by rw[jI,e1],hl _ _ e1 e2,hm.ke.E e3.bel e3⟩
 |vec l e sz st=>obtain⟨k1,k2,h3⟩:=h;refine⟨k1,k2,?_⟩;rcases h3 with⟨h3,h4⟩|⟨i,l',e1,e2,e3⟩;exact .inl ⟨h3,by rw[jI,h4]⟩;exact .inr ⟨i,l',by rw[jI,e1],hl _ _ e1 e2,hm.ke.E e3.bel e3⟩
 |map es cl=>obtain⟨i,es',e1,e2,e3⟩:=h;exact⟨i,es',by rw[jI,e1],hl _ _ e1 e2,relm e3⟩
def nO.not1{i:Nat}(h:nO x k b)(hi:x.I k=some i){row:X Value}{e:TypeId}:lk x.s.h i≠some (.inl (row,e,1)):=by
 intro hl;cases b with
 |row l e'=>obtain⟨_,i',l',e1,e2,_⟩:=h;rw[hi]at e1;cases e1;rw[hl]at e2;cases e2
 |vec l e' sz st=>obtain⟨_,_,h3⟩:=h;rcases h3 with⟨_,h4⟩|⟨i',l',e1,e2,_⟩;rw[hi]at h4;cases h4;rw[hi]at e1;cases e1;rw[hl]at e2;cases e2
 |map es cl=>obtain⟨i',es',e1,e2,_⟩:=h;rw[hi]at e1;cases e1;rw[hl]at e2;cases e2
def step1{y:Cx}(hx:iZ x)(K:Nat)(bK:B)(hn:x.Y.nx<=y.Y.nx)(hK:K<y.Y.nx)(uH:∀k,k≠K->gt y.Y.h k=gt x.Y.h k/\y.I k=x.I k)(gH:gt y.Y.h K=some bK)
  (oR:(∃b0,gt x.Y.h K=some b0/\b0.st<=bK.st/\(b0.st=bK.st->y.I K=x.I K/\∀l e sz st,b0=.vec l e sz st->∃l',bK=.vec l' e sz st))\/(gt x.Y.h K=none/\x.Y.nx<=K)) (wV:∀i b,lk x.s.h i=some b->(∀c,gt x.Y.h K=some c->x.I K≠some i)->lk y.s.h i=some b)
  (rO:∀i,y.I K=some i->(∃c,gt x.Y.h K=some c/\x.I K=some i)\/x.s.nx<=i) (iE:∀i b,lk y.s.h i=some b->i<y.s.nx) (hB:Mo x.Y.nx x y->nO y K bK):Out x y:=by
 have fD:Mo x.Y.nx x y:=by refine⟨fun k hk _=>⟨by omega,fun b' cK=>?_⟩,fun i row e hl=>wV i _ hl fun c hc he=>(hx.ok K c hc).2.not1 he hl⟩;by_cases e:k=K;subst e;rw[gH]at cK;cases cK;rcases oR with⟨b0,h1,h2,h3⟩|⟨_,h2⟩;exact⟨b0,h1,h2,h3⟩;omega;obtain⟨h1,h2⟩:=uH k e;exact⟨b',by rw[<-h1,cK],zF _,fun _=>⟨h2,fun l e sz st h=>⟨l,h⟩⟩⟩
 have cR:∀k b i c,k≠K->gt x.Y.h k=some b->x.I k=some i->gt x.Y.h K=some c->x.I K≠some i:=fun k b i c hk hb hi hc he=>hk (hx.inj k K b c i hb hc hi he);refine⟨⟨fun k b hb=>?_,fun k k' b b' i hb cK hi i5=>?_,iE⟩,fD,fun F O i b hb=>?_⟩;by_cases e:k=K;subst e;rw[gH]at hb;cases hb;exact⟨hK,hB fD⟩;obtain⟨h1,h2⟩:=uH k e;rw[h1]at hb;obtain⟨h3,h4⟩:=hx.ok k b hb;exact⟨by omega,h4.mono fD h2 fun i c hi hl=>wV i c hl fun d hd=>cR k b i d e hb hi hd⟩;have own:∀k b i,k≠K->gt y.Y.h k=some b->y.I k=some i->gt x.Y.h k=some b/\x.I k=some i/\i<x.s.nx:=fun k b i e hb hi=>by
  obtain⟨h1,h2⟩:=uH k e;rw[h1]at hb;rw[h2]at hi;refine⟨hb,hi,?_⟩;have:=(hx.ok k b hb).2;cases b with
  |row l e=>obtain⟨_,i',l',e1,e2,_⟩:=this;rw[hi]at e1;cases e1;exact hx.bd _ _ e2
  |vec l e' sz st=>obtain⟨_,_,h3⟩:=this;rcases h3 with⟨_,h4⟩|⟨i',l',e1,e2,_⟩;rw[hi]at h4;cases h4;rw[hi]at e1;cases e1;exact hx.bd _ _ e2
  |map es cl=>obtain⟨i',es',e1,e2,_⟩:=this;rw[hi]at e1;cases e1;exact hx.bd _ _ e2
 by_cases e:k=K;by_cases e':k'=K;rw[e,e'];exfalso;subst e;obtain⟨q1,q2,q3⟩:=own k' b' i e' cK i5;rcases rO i hi with⟨c,hc,oT⟩|IK;exact e' (hx.inj k' k b' c i q1 hc q2 oT);omega;by_cases e':k'=K;exfalso;subst e';obtain⟨q1,q2,q3⟩:=own k b i e hb hi;rcases rO i i5 with⟨c,hc,oT⟩|IK;exact e (hx.inj k k' b c i q1 hc q2 oT);omega;obtain⟨q1,q2,_⟩:=own k b i e hb hi;obtain⟨q3,q4,_⟩:=own k' b' i e' cK i5;exact hx.inj k k' b b' i q1 q3 q2 q4;obtain⟨h1,h2⟩:=O i b hb;refine⟨wV i b h1 fun c hc=>h2 K c hc,fun k c hc hi=>?_⟩;by_cases e:k=K;subst e;rcases rO i hi with⟨d,hd,bH⟩|IK;exact h2 k d hd bH;have:=hx.bd i b h1;omega;obtain⟨q1,q2⟩:=uH k e;rw[q1]at hc;rw[q2]at hi;exact h2 k c hc hi
def mB(I:Nat->V Nat)(k:Nat)(o:V Nat):Nat->V Nat:=fun j=>if j=k then o else I j
def M_(I:Nat->V Nat)(k:Nat)(o:V Nat):mB I k o k=o:=by simp[mB]
def iv(I:Nat->V Nat){j:Nat}(o:V Nat)(h:j≠k):mB I k o j=I j:=by simp[mB,h]
def U5(hx:iZ x):gt x.Y.h x.Y.nx=none:=by rcases h:gt x.Y.h x.Y.nx with _|b;rfl;have:=(hx.ok _ b h).1;omega
def b_(hx:iZ x)(b:B)(c:mI)(hB:∀y:Cx,y.I x.Y.nx=some x.s.nx->lk y.s.h x.s.nx=some c->Mo x.Y.nx x y->nO y x.Y.nx b):
  Out x ⟨mB x.I x.Y.nx (some x.s.nx),newU x.Y b,⟨(x.s.nx,c)::x.s.h,x.s.nx+1⟩⟩:=by refine step1 hx x.Y.nx b (by simp[newU]) (by simp[newU]) (fun k hk=>⟨by simp[newU,aP,Ne.symm hk],iv _ _ hk⟩) (by simp[newU,aP]) (.inr ⟨U5 hx,zF _⟩) (fun i d hd _=>?_) (fun i hi=>?_) (fun i d hd=>?_) (fun hm=>?_);have:=hx.bd i d hd;simp[mL,show x.s.nx≠i by omega,hd];change mB _ _ _ _=some i at hi;rw[M_]at hi;cases hi;exact .inr (zF _);simp only[mL]at hd;split at hd;show i<x.s.nx+1;omega;exact Nat.lt_succ_of_lt (hx.bd i d hd);exact hB _ (by simp[mB]) (by simp[mL]) hm
def K_(hx:iZ x)(e:TypeId)(sz:Nat)(eY:0<sz):Out x ⟨mB x.I x.Y.nx none,newU x.Y (.vec [] e sz 0),x.s⟩:=by refine step1 hx x.Y.nx (.vec [] e sz 0) (by simp[newU]) (by simp[newU]) (fun k hk=>⟨by simp[newU,aP,Ne.symm hk],iv _ _ hk⟩) (by simp[newU,aP]) (.inr ⟨U5 hx,zF _⟩) (fun i d hd _=>hd) (fun i hi=>?_) hx.bd (fun hm=>?_);change mB _ _ _ _=some i at hi;rw[M_]at hi;cases hi;exact⟨rfl,eY,.inl ⟨rfl,by simp[mB]⟩⟩
def Ot{c:mI}{st:Nat}(dC:b.st=st){p:V Nat->Prop}(hp:p (some x.s.nx)):Ref ⟨mB x.I x.Y.nx (some x.s.nx),newU x.Y b,⟨(x.s.nx,c)::x.s.h,x.s.nx+1⟩⟩ x.Y.nx st p:=by refine⟨by simp[newU],fun b' cK=>?_⟩;simp only[newU,aP,if_true,zA]at cK;subst cK;exact⟨Nat.le_of_eq dC.symm,fun _=>by simpa[mB]using hp⟩
def jc(hx:iZ x){K i:Nat}{b0 bK:B}{c:mI}(h0:gt x.Y.h K=some b0)(hi:x.I K=some i){c0:mI}(PA:lk x.s.h i=some c0)(dC:b0.st=bK.st)(hv:∀l e sz st,b0=.vec l e sz st->∃l',bK=.vec l' e sz st)
  (hB:∀y:Cx,y.I K=some i->lk y.s.h i=some c->Mo x.Y.nx x y->nO y K bK):Out x ⟨x.I,⟨ug x.Y.h K bK,x.Y.nx⟩,⟨up x.s.h i c,x.s.nx⟩⟩:=by refine step1 hx K bK (zF _) (hx.ok K _ h0).1 (fun k hk=>⟨by simp[bS,Ne.symm hk],rfl⟩) (by simp[bS,h0]) (.inl ⟨b0,h0,Nat.le_of_eq dC,fun _=>⟨rfl,hv⟩⟩) (fun j d hd cR=>?_) (fun j hj=>.inl ⟨b0,h0,hj⟩) (fun j d hd=>?_) (fun hm=>?_);have:i≠j:=fun e=>cR b0 h0 (by rw[hi,e]);simp[DH,this,hd];simp only[DH]at hd;split at hd;rename_i e;subst e;exact hx.bd i _ PA;exact hx.bd j d hd;exact hB _ hi (by simp[DH,PA]) hm
def E_{zu:X U}{z:X Value}(h:bA x zu z)(n:Nat):bA x (wD zu n) (dD z n):=by induction n with|zero=>exact bA.nil x|succ n ih=>simp only[wD,List.replicate_succ,List.flatten_cons,dD];exact h.append ih
def z6r{zu:X U}(h:okL zu=true)(n:Nat):okL (wD zu n)=true:=by induction n with|zero=>rfl|succ n ih=>simp only[wD,List.replicate_succ,List.flatten_cons];exact S8 h ih
section
variable{T:Tb}{x:Cx}(hx:iZ x){tm:X U}{tv:X Value}(ht:bA x tm tv)
include hx
def kz{l:X U}{l':X Value}(hl:bA x l l')(hk:okL l=true)(e:TypeId):Out x ⟨mB x.I x.Y.nx (some x.s.nx),newU x.Y (.row l e),Rx.newRow x.s l' e 0⟩:=
 b_ hx (.row l e) (.inl (l',e,0)) fun y h1 h2 hm=>⟨hk,x.s.nx,l',h1,h2,hm.ke.E hl.bel hl⟩
def qng{l:X U}{l':X Value}(hl:bA x l l')(hk:okL l=true)(e:TypeId){sz:Nat}(eY:0<sz):Out x ⟨mB x.I x.Y.nx (some x.s.nx),newU x.Y (.vec l e sz 0),Rx.newRow x.s l' e (sz+2)⟩:=
 b_ hx (.vec l e sz 0) (.inl (l',e,sz+2)) fun y h1 h2 hm=>⟨hk,eY,.inr ⟨x.s.nx,l',h1,h2,hm.ke.E hl.bel hl⟩⟩
variable{t:TypeId}
variable{r:U}
variable{Y':Sg}
def z32{p u:U}{pv uv:Value}(h:XZ T x.Y t p u=some (r,Y'))(hp:aC x p pv)(hu:aC x u uv):
  ∃v y,Gj T x.s t pv uv=some (v,y.s)/\y.Y=Y'/\aC y r v/\Out x y:=by
 unfold XZ at h;cases p with
 |ptr k st off=>
  simp only at h;rcases hs:cD T t with _|n;simp[hs]at h;simp only[hs]at h;rcases hc:vC u with _|cs;simp[hc]at h;simp only[hc]at h;obtain⟨c1,c2⟩:=Z_ hu hc;rcases aQ:Nat.beq cs.length n with _|_;simp[aQ]at h;simp only[aQ,zC,c2]at h;rcases eA:cellsOf x.Y k st with _|l;simp[eA]at h;simp only[eA]at h;obtain⟨i,lv,e,md,q1,rfl,q2,q3,q4,q5,q6⟩:=qji hx eA hp;have c1':=zax (Y:=x.Y) (k:=k) c1;have c2':okL (EU x.Y k cs)=true:=by rw[W7];exact c2
  rcases hput:qT l off (EU x.Y k cs)with _|l1;simp[hput]at h;simp only[hput]at h;obtain⟨rv,p1,p2,p3⟩:=z1p hput q4 c1';have p4:=p3 q5 c2';have dC:Gj T x.s t (.pointer (some ⟨i,off,none⟩)) uv=some (undef,⟨up x.s.h i (.inl (rv,e,md)),x.s.nx⟩):=by
   have uG:eR x.s i=some (lv,e,md):=by unfold eR;rcases q6 with⟨rfl,_⟩|⟨sz,rfl,_⟩<;>simp[q2]
   simp only[Gj,hs];rw[<-c1.2,aQ];simp only[zC,kl c1 c2,uG,p1]
  rcases q6 with⟨rfl,hg⟩|⟨sz,rfl,hz,hg⟩;simp only[MY,hg,zA,zB]at h;obtain⟨rfl,rfl⟩:=h;exact⟨undef,⟨x.I,⟨ug x.Y.h k (.row l1 e),x.Y.nx⟩,⟨up x.s.h i (.inl (rv,e,0)),x.s.nx⟩⟩,dC,rfl,by simp[aC],jc hx hg q1 q2 rfl qq4 fun y h1 h2 hm=>⟨p4,i,rv,h1,h2,hm.ke.E p2.bel p2⟩⟩;simp only[MY,hg,zA,zB]at h;obtain⟨rfl,rfl⟩:=h;exact⟨undef,⟨x.I,⟨ug x.Y.h k (.vec l1 e sz st),x.Y.nx⟩,⟨up x.s.h i (.inl (rv,e,sz+2)),x.s.nx⟩⟩,dC,rfl,by simp[aC],jc hx hg q1 q2 rfl (by rintro l e sz st h;cases h;exact⟨_,rfl⟩) fun y h1 h2 hm=>⟨p4,hz,.inr ⟨i,rv,h1,h2,hm.ke.E p2.bel p2⟩⟩⟩
 |_=>simp at h
def qr7{n:Nat}{ps:X (Nat×U)}{pv:X (Nat×Value)}(h:Pp T x.Y t n ps=some (r,Y'))(hp:XY x ps pv):∃v y,Po T x.s t n pv=some (v,y.s)/\y.Y=Y'/\aC y r v/\Out x y:=by
 unfold Pp at h;rcases hd:T.und t with _|d;simp[hd]at h;cases d with
 |slice e=>
  simp only[hd]at h;rcases hi:T.inf e with _|q;simp[hi]at h;obtain⟨sz,by_,z⟩:=q;simp only[hi]at h;rcases h1:Nat.ble (n*sz) 16777216 with _|_;simp[h1]at h;simp only[h1,zC]at h;rcases h2:Nat.ble n 16777216 with _|_;simp[h2]at h;simp only[h2,zC]at h;rcases h3:Nat.beq z.cells.toList.length sz with _|_;simp only[h3,zD]at h;cases h;simp only[h3,zC]at h;rcases h4:pM z.cells.toList with _|zu;simp[h4]at h;simp only[h4]at h;have CE:=(Y8 _ _ h4).2 x;rcases h5:qY (fun i=>some (i*sz,sz)) (wD zu n) ps with _|cs;simp[h5]at h;simp only[h5]at h;rcases h6:okL cs with _|_;simp[h6]at h;simp only[h6,zC,zA,zB]at h;obtain⟨rfl,rfl⟩:=h;obtain⟨rv,f1,f2⟩:=Pj hp (E_ CE n) h5;have iU:n<cV:=by have:=zY h2;unfold cV;omega
  refine⟨.slice (some ⟨x.s.nx,0,none⟩) n n,_,?_,rfl,?_,kz hx f2 h6 e⟩;simp only[Po,hd,hi,h1,h3,zC,f1,wG iU];simp only[aC];exact⟨rfl,Ot rfl ⟨x.s.nx,rfl,rfl,iU,zF _⟩⟩
 |_=>simp[hd]at h
def z5e{a b:U}{va vb:Value}(h:Lr T x.Y t a b=some (r,Y'))(ha:aC x a va)(hb:aC x b vb):∃v y,Lq T x.s t va vb=some (v,y.s)/\y.Y=Y'/\aC y r v/\Out x y:=by
 unfold Lr at h;rcases hd:T.und t with _|d;simp[hd]at h;cases d with
 |slice e=>
  cases a with
  |int ka a=>
   cases b with
   |int kb b=>
    simp only[aC]at ha hb;subst ha;subst hb;simp only[hd]at h;rcases hi:T.inf e with _|q;simp[hi]at h;obtain⟨sz,by_,z⟩:=q;simp only[hi]at h;rcases h4:pM z.cells.toList with _|zu;simp[h4]at h;simp only[h4]at h;have CE:=(Y8 _ _ h4).2 x;rcases h6:okL zu with _|_;simp[h6]at h;simp only[h6,zC]at h;rcases h3:Nat.beq z.cells.toList.length sz with _|_;simp only[h3,zD]at h;cases h;simp only[h3,zC]at h;split at h;rename_i hc;simp only[zA,zB]at h;obtain⟨rfl,rfl⟩:=h;obtain⟨c1,c2,c3,c4⟩:=hc;have Kd:IntKind.i64.wrap a=Int.ofNat a.toNat:=by rw[oZ qq0 qq0];simp;omega
    have Uz:IntKind.i64.wrap b=Int.ofNat b.toNat:=by rw[oZ qq0 qq0];simp;omega
    have iU:b.toNat<cV:=by unfold cV;omega
    refine⟨.slice (some ⟨x.s.nx,0,none⟩) a.toNat b.toNat,_,?_,rfl,?_,kz hx (E_ (im CE) b.toNat) (z6r (by rw[wa];exact h6) _) e⟩;simp only[Lq,hd,hi,Kd,Uz,h3,zC,wG iU,Nat.ble_eq_true_of_le c3,Nat.ble_eq_true_of_le (show a.toNat<=b.toNat by omega)];simp only[aC];exact⟨rfl,Ot rfl ⟨x.s.nx,rfl,rfl,iU,by omega⟩⟩;cases h
   |_=>simp[hd]at h
  |_=>simp[hd]at h
 |_=>simp[hd]at h
end
def f_{n b:Nat}(h1:n*b<=140737488355328)(h2:n<=140737488355328):C0 n b=true:=by simp[C0,Nat.ble_eq_true_of_le h1,Nat.ble_eq_true_of_le h2]
variable{e:TypeId}
def m?{s:S}{i off n:Nat}{l:X Value}{md:Nat}(hl:lk s.h i=some (.inl (l,e,md)))(h:off+n<=l.length):vB s (some ⟨i,off,none⟩) n=some ((l.drop off).take n):=by cases n with|zero=>simp[vB]|succ n=>simp only[vB,hl];exact wc h
section
variable{T:Tb}{x:Cx}(hx:iZ x)
include hx
variable{sz:Nat}
variable{k:Nat}
variable{new:X U}
def zal(eY:0<sz){u:U}{v:Value}(h:uX x.Y sz u=some (k,new))(hr:aC x u v):∃b c vs,AK v=.slice b k c/\(v=.slice b k c\/k=0/\b=none/\c=0/\new=[]/\∃r,v=.chan (some r))/\vB x.s b (k*sz)=some vs/\bA x new vs/\okL new=true:=by
 unfold uX at h;cases u with
 |nils=>simp only[zA,zB]at h;obtain⟨rfl,rfl⟩:=h;simp only[aC]at hr;subst hr;exact⟨none,0,[],rfl,.inl rfl,by rw[Nat.zero_mul];rfl,bA.nil x,rfl⟩
 |isl t l=>simp only at h;split at h;rename_i bY;simp only[zA,zB]at h;obtain⟨rfl,rfl⟩:=h;simp only[aC]at hr;rcases hr with⟨rfl,rfl |⟨r,rfl⟩⟩|⟨i,off,c,rfl,_,eA⟩;exact⟨none,0,[],rfl,.inl rfl,by rw[zS,Nat.zero_mul];rfl,bA.nil x,rfl⟩;exact⟨none,0,[],rfl,.inr ⟨rfl,rfl,rfl,rfl,r,rfl⟩,by rw[zS,Nat.zero_mul];rfl,bA.nil x,rfl⟩;by_cases cR:l=[];subst cR;exact⟨_,c,[],rfl,.inl rfl,by rw[zS,Nat.zero_mul];rfl,bA.nil x,rfl⟩;rcases eA with eA |⟨row,e,gM,g1,g2,g3⟩;exact absurd eA cR;have:=z2e g2 cR bY;subst this;obtain⟨f1,f2⟩:=qry g2;have aQ:=jf g2;rw[List.length_drop]at aQ;have:0<l.length*gM:=Nat.mul_pos (by cases l<;>simp_all) eY;exact⟨_,c,_,rfl,.inl rfl,m? g1 qq0,f1,f2⟩;cases h
 |sl k' off n c=>simp only at h;rcases eA:rowOf x.Y k' with _|l;simp[eA]at h;simp only[eA]at h;rcases hs:kY l off (n*sz)with _|cs;simp[hs]at h;simp only[hs,zA,zB]at h;obtain⟨rfl,rfl⟩:=h;obtain⟨e,hg,hl⟩:=qnr eA;obtain⟨i,hi,rfl,_⟩:=Gy hl hr;obtain⟨_,k1,i',lv,e1,e2,e3⟩:=hx.ok k' _ hg;rw[hi]at e1;cases e1;obtain⟨s1,s2⟩:=z2o hs e3;obtain⟨q1,rfl⟩:=S4 hs;exact⟨_,c,_,rfl,.inl rfl,m? e2 (by rw[<-e3.2];exact q1),im s2,by rw[wa];exact YH (FG k1 _) _⟩
 |vl k' st off n=>simp only at h;rcases hv:oA x.Y k' st with _|q;simp[hv]at h;obtain⟨l,e,gM⟩:=q;obtain⟨hg,hl⟩:=c? hv;simp only[hv,beq_eq]at h;by_cases hz:gM=sz;subst hz;simp only[yC,zC]at h;rcases hs:kY l (off*gM) (n*gM)with _|cs;simp[hs]at h;simp only[hs,zA,zB]at h;obtain⟨rfl,rfl⟩:=h;obtain⟨q1,rfl⟩:=S4 hs;by_cases hn:n=0;subst hn;obtain⟨_,_,_,_,tB⟩:=Gx hl hr;obtain⟨b,c,rfl⟩:=z8m tB;exact⟨b,c,[],rfl,.inl rfl,by rw[Nat.zero_mul];rfl,by simpa using bA.nil x,by simp[okL]⟩;obtain⟨i,l0,e0,Nn,l',h1,h2,rfl,h4,h5,h6,h7⟩:=rz hx hl hr qq0;have:=hg.symm.trans h1;cases this;obtain⟨s1,s2⟩:=z2o hs h5;exact⟨_,_,_,rfl,.inl rfl,m? h4 (by rw[<-h5.2];exact q1),s2,YH (FG h7 _) _⟩;simp[hz]at h
 |_=>simp at h
omit hx in
def qnq{l:X U}{e:TypeId}{sz N:Nat}{c:mI}:aC ⟨mB x.I x.Y.nx (some x.s.nx),newU x.Y (.vec l e sz 0),⟨(x.s.nx,c)::x.s.h,x.s.nx+1⟩⟩ (.vl x.Y.nx 0 0 N) (.slice (some ⟨x.s.nx,0,none⟩) N cV):=by simp only[aC];refine⟨rfl,by simp[newU],fun b hb=>?_⟩;simp only[newU,aP,if_true,zA]at hb;subst hb;exact⟨zF _,fun _=>⟨l,e,sz,rfl,by simp[mB,K9]⟩⟩
omit hx in
def n?{e:TypeId}{sz:Nat}{o:V Addr}(ho:∀a,o=some a->a.spot=none):aC ⟨mB x.I x.Y.nx none,newU x.Y (.vec [] e sz 0),x.s⟩ (.vl x.Y.nx 0 0 0) (.slice o 0 0):=by simp only[aC];refine⟨rfl,by simp[newU],fun b hb=>?_⟩;simp only[newU,aP,if_true,zA]at hb;subst hb;exact⟨zF _,fun _=>⟨[],e,sz,rfl,by simpa[mB,K9]using ho⟩⟩
variable{t:TypeId}
variable{xt:TypeId}
def o6{e2:TypeId}{by_:Nat}{z:Value}(hd:T.und t=some (.slice e))(dL:T.und xt=some (.slice e2))(hi:T.inf e=some (sz+1,by_,z))(hz:Nat.beq z.cells.toList.length (sz+1)=true)
  {o:V Addr} (ho:∀a,o=some a->a.spot=none) {b:V Addr} {c:Nat} {vs:X Value} (hc:vB x.s b (k*(sz+1))=some vs) (hr:bA x new vs) (hk:okL new=true) (aQ:new.length=k*(sz+1)) (bZ:k*by_<=140737488355328/\k<=140737488355328):
  ∃v y,wJ T x.s t xt (.slice o 0 0) (.slice b k c)=some (v,y.s)/\y.Y=newU x.Y (.vec new e (sz+1) 0)/\aC y (.vl x.Y.nx 0 0 k) v/\Out x y/\(0<k->∃b n c,v=.slice (some b) n c):=by cases k with|zero=>have:new=[]:=List.eq_nil_of_length_eq_zero (by rw[aQ];simp);subst this;rw[hr.nil_inv]at hc;refine⟨.slice o 0 0,⟨mB x.I x.Y.nx none,newU x.Y (.vec [] e (sz+1) 0),x.s⟩,?_,rfl,n? ho,K_ hx e (sz+1) qq0,fun h=>qq0⟩;simp only[wJ,C9,AK,zD,yO,hd,dL,hi,hc,vD,zC,JI];rfl|succ k=>refine⟨.slice (some ⟨x.s.nx,0,none⟩) (k+1) cV,_,?_,rfl,qnq,qng hx hr hk e qq0,fun _=>⟨_,_,_,rfl⟩⟩;simp only[wJ,C9,AK,zD,yO,hd,dL,hi,hc,kl hr hk,zC,Gf,JI,hz,Nat.zero_add,f_ bZ.1 bZ.2,Rx.newRow]
def yb{e2:TypeId}{by_:Nat}{z:Value}(hd:T.und t=some (.slice e))(dL:T.und xt=some (.slice e2))(hi:T.inf e=some (sz+1,by_,z))(hz:Nat.beq z.cells.toList.length (sz+1)=true)
  {o:V Addr} (ho:∀a,o=some a->a.spot=none) {b:V Addr} {c:Nat} {vs:X Value} (hc:vB x.s b (k*(sz+1))=some vs) (hr:bA x new vs) (hk:okL new=true) (aQ:new.length=k*(sz+1)) (bZ:k*by_<=140737488355328/\k<=140737488355328):
  ∃v y,wJ T x.s t xt (.slice o 0 0) (.slice b k c)=some (v,y.s)/\y.Y=newU x.Y (.vec new e (sz+1) 0)/\aC y (.vl x.Y.nx 0 0 k) v/\Out x y:=by obtain⟨v,y,h1,h2,h3,h4,_⟩:=o6 hx hd dL hi hz ho hc hr hk aQ bZ;exact⟨v,y,h1,h2,h3,h4⟩
def Pa{K:Nat}{l l1:X U}{st:Nat}(hg:gt x.Y.h K=some (.vec l e sz st))(o:V Nat)(s':S)(wV:∀i b,lk x.s.h i=some b->x.I K≠some i->lk s'.h i=some b)(rO:∀i,o=some i->x.I K=some i\/x.s.nx<=i)
  (iE:∀i b,lk s'.h i=some b->i<s'.nx) (hk:okL l1=true) (hB:∀y:Cx,y.s=s'->Mo x.Y.nx x y->l1=[]/\o=none\/∃i l',o=some i/\lk s'.h i=some (.inl (l',e,sz+2))/\bA y l1 l'):
  Out x ⟨mB x.I K o,⟨ug x.Y.h K (.vec l1 e sz (st+1)),x.Y.nx⟩,s'⟩:=by have eY:0<sz:=(hx.ok K _ hg).2.2.1;refine step1 hx K (.vec l1 e sz (st+1)) (zF _) (hx.ok K _ hg).1 (fun k hk=>⟨by simp[bS,Ne.symm hk],iv _ _ hk⟩) (by simp[bS,hg]) (.inl ⟨_,hg,Nat.le_succ _,fun h=>by simp[B.st]at h⟩) (fun i b hb cR=>wV i b hb (cR _ hg)) (fun i hi=>?_) iE (fun hm=>⟨hk,eY,?_⟩);change mB _ _ _ _=some i at hi;rw[M_]at hi;rcases rO i hi with h |h;exact .inl ⟨_,hg,h⟩;exact .inr h;rcases hB _ rfl hm with⟨h1,h2⟩|⟨i,l',h1,h2,h3⟩;exact .inl ⟨h1,by simp[mB,h2]⟩;exact .inr ⟨i,l',by simp[mB,h1],h2,h3⟩
omit hx in
def Oo{K:Nat}{l l1:X U}{e:TypeId}{sz st N:Nat}(hx:iZ x)(hg:gt x.Y.h K=some (.vec l e sz st)){o:V Nat}{s':S}{v:Value}(h1:v.oneCell'=true)(h:K9 0 N v sz o):
  aC ⟨mB x.I K o,⟨ug x.Y.h K (.vec l1 e sz (st+1)),x.Y.nx⟩,s'⟩ (.vl K (st+1) 0 N) v:=by simp only[aC];refine⟨h1,(hx.ok K _ hg).1,fun b hb=>?_⟩;simp only[bS,if_true,hg,zM,zA]at hb;subst hb;exact⟨zF _,fun _=>⟨l1,e,sz,rfl,by simpa[mB]using h⟩⟩
omit hx in
def zak{sz:Nat}{u:U}{k:Nat}{new:X U}(h:uX x.Y sz u=some (k,new)):new.length=k*sz:=by
 unfold uX at h;cases u with
 |nils=>simp only[zA,zB]at h;obtain⟨rfl,rfl⟩:=h;simp
 |isl t l=>
  simp only at h;split at h;rename_i bY;simp only[zA,zB]at h;obtain⟨rfl,rfl⟩:=h;have:=z6v bY;clear bY;induction l with
  |nil=>simp|cons c l ih=>have h1:=this c qq4;have h2:=ih fun d hd=>this d (by simp[hd]);simp only[List.flatten_cons,zU,zO,Nat.succ_mul,h2,h1];omega
  cases h
 |sl k' off n c=>simp only at h;rcases eA:rowOf x.Y k' with _|l;simp[eA]at h;simp only[eA]at h;rcases hs:kY l off (n*sz)with _|cs;simp[hs]at h;simp only[hs,zA,zB]at h;obtain⟨rfl,rfl⟩:=h;obtain⟨q1,rfl⟩:=S4 hs;rw[io];simp;omega
 |vl k' st off n=>simp only at h;rcases hv:oA x.Y k' st with _|q;simp[hv]at h;obtain⟨l,e,gM⟩:=q;simp only[hv,beq_eq]at h;by_cases hz:gM=sz;simp only[hz,yC,zC]at h;rcases hs:kY l (off*sz) (n*sz)with _|cs;simp[hs]at h;simp only[hs,zA,zB]at h;obtain⟨rfl,rfl⟩:=h;obtain⟨q1,rfl⟩:=S4 hs;simp;omega;simp[hz]at h
 |_=>simp at h
def qx0{a b r:U}{va vb:Value}{Y':Sg}(h:C4 T x.Y t xt a b=some (r,Y'))(ha:aC x a va)(hb:aC x b vb):∃v y,wJ T x.s t xt va vb=some (v,y.s)/\y.Y=Y'/\aC y r v/\Out x y:=by
 unfold C4 at h;rcases hd:T.und t with _|d;simp[hd]at h;cases d with
 |slice e=>
  rcases dL:T.und xt with _|d2;simp[hd,dL]at h;cases d2 with
  |slice e2=>
   simp only[hd,dL]at h;rcases hi:T.inf e with _|q;simp[hi]at h;obtain⟨sz,by_,z⟩:=q;cases sz with
   |zero=>simp[hi]at h|succ sz=>
    simp only[hi]at h;rcases hz:Nat.beq z.cells.toList.length (sz+1)with _|_;simp only[hz,zD]at h;cases h;simp only[hz,zC]at h;rcases hsrc:uX x.Y (sz+1) b with _|q;simp[hsrc]at h;obtain⟨k,new⟩:=q;simp only[hsrc]at h;have aQ:=zak hsrc;obtain⟨bb,c,vs,CT,_,hc,hr,hk⟩:=zal hx qq0 hsrc hb;have happ:∀va',wJ T x.s t xt va' vb=wJ T x.s t xt va' (.slice bb k c):=fun va'=>by unfold wJ;rw[CT];simp only[AK,C9,zD]
    rw[happ];cases a with
    |nils=>simp only at h;split at h;rename_i bZ;simp only[zA,zB]at h;obtain⟨rfl,rfl⟩:=h;simp only[aC]at ha;subst ha;exact yb hx hd dL hi hz qq4 hc hr hk aQ bZ;cases h
    |isl tt l=>
     rcases tt with _|_;simp at h;cases l with
     |cons _ _=>simp at h|nil=>
      simp only at h;split at h;rename_i bZ;simp only[zA,zB]at h;obtain⟨rfl,rfl⟩:=h;simp only[aC]at ha;rcases ha with⟨_,rfl |⟨rr,rfl⟩⟩|⟨i,off,c1,rfl,h2,_⟩;exact yb hx hd dL hi hz qq4 hc hr hk aQ bZ.2;obtain⟨v,y,h1,h2,h3,h4,h5⟩:=o6 (T:=T) hx hd dL hi hz (o:=none) qq4 hc hr hk aQ bZ.2;obtain⟨b1,n1,c1,rfl⟩:=h5 bZ.1;have h0:yO T x.s t xt (.slice none 0 0) (.slice bb k c)=some (.slice (some b1) n1 c1,y.s):=by simpa only[wJ,C9,AK,zD]using h1
      exact⟨_,y,by simp only[wJ,C9,AK,zC,zD,h0],h2,h3,h4⟩;obtain⟨rfl,_⟩:=h2 trivial;exact yb hx hd dL hi hz qq4 hc hr hk aQ bZ.2;cases h
    |sl k' off n cp=>
     cases n with|succ n=>simp at h|zero=>
     cases cp with|succ cp=>simp at h|zero=>
     simp only at h;rcases eA:rowOf x.Y k' with _|l;simp[eA]at h;simp only[eA]at h;obtain⟨e',hg,hl⟩:=qnr eA;obtain⟨i,i5,hva,P5,_⟩:=Gy hl ha;split at h;rename_i bZ;simp only[zA,zB]at h;obtain⟨rfl,rfl⟩:=h;subst hva;exact yb hx hd dL hi hz qq4 hc hr hk aQ bZ;cases h
    |vl K st off n=>
     simp only at h;rcases hg:gt x.Y.h K with _|b0;simp[hg]at h;cases b0 with
     |vec l e' gM bJ=>
      simp only[hg,beq_eq]at h;by_cases dC:bJ=st;by_cases he:e'=e;by_cases eY:gM=sz+1;subst dC;subst he;subst eY;simp only[yC,zC]at h;rcases hs:kY l (off*(sz+1)) (n*(sz+1))with _|p;simp[hs]at h;simp only[hs]at h;split at h;rename_i bZ;obtain⟨r1,r2,r3⟩:=bZ;simp only[zA,zB]at h;obtain⟨rfl,rfl⟩:=h;obtain⟨l0,e0,Nn,sN,tB⟩:=Gx (x:=x) (by simp[live,hg,B.st]) ha;have:=hg.symm.trans sN;cases this;obtain⟨_,k1,k2,h3⟩:=hx.ok K _ hg;obtain⟨q1,rfl⟩:=S4 hs;rcases h3 with⟨rfl,jI⟩|⟨i,l',e1,e2,e3⟩;rw[jI]at tB;obtain⟨rfl,rfl,o,rfl,ho⟩:=tB;cases k with
      |zero=>have:new=[]:=List.eq_nil_of_length_eq_zero (by rw[aQ];simp);subst this;rw[hr.nil_inv]at hc;refine⟨.slice o 0 0,⟨mB x.I K none,⟨ug x.Y.h K (.vec [] e' (sz+1) (bJ+1)),x.Y.nx⟩,x.s⟩,?_,by simp,Oo hx hg rfl ⟨rfl,rfl,o,rfl,ho⟩,Pa hx hg none x.s (fun i b hb _=>hb) qq4 hx.bd rfl (fun y _ _=>.inl ⟨rfl,rfl⟩)⟩;simp only[wJ,C9,AK,zD,yO,hd,dL,hi,hc,vD,zC,JI];rfl|succ k=>refine⟨.slice (some ⟨x.s.nx,0,none⟩) (0+(k+1)) cV,⟨mB x.I K (some x.s.nx),⟨ug x.Y.h K (.vec new e' (sz+1) (bJ+1)),x.Y.nx⟩,Rx.newRow x.s vs e' (sz+1+2)⟩,?_,by simp,Oo hx hg rfl (.inr qq4),Pa hx hg (some x.s.nx) _ (fun i b hb _=>?_) (fun i hi=>.inr (by cases hi;exact zF _)) (fun i b hb=>?_) hk (fun y hy hm=>.inr ⟨x.s.nx,vs,rfl,?_,hm.ke.E hr.bel hr⟩)⟩;simp only[wJ,C9,AK,zD,yO,hd,dL,hi,hc,kl hr hk,zC,Gf,JI,hz,f_ r1 r2];have:=hx.bd i b hb;simp[Rx.newRow,mL,show x.s.nx≠i by omega,hb];simp only[Rx.newRow,mL]at hb ⊢;split at hb;omega;exact Nat.lt_succ_of_lt (hx.bd i b hb);simp[Rx.newRow,mL]
      rw[e1]at tB;rcases tB with⟨h0,rfl,_⟩|rfl;omega;have uG:eR x.s i=some (l',e',sz+1+2):=by simp[eR,e2]
      have hcc:Nat.blt (cV+off) cV=false:=RX qq0;have LY:cT (cV+off)=off:=by simp[cT]
      have Vi:uV l' (off*(sz+1)) (n*(sz+1))=some ((l'.drop (off*(sz+1))).take (n*(sz+1))):=wc (by rw[<-e3.2];exact q1);have fI:Nat.beq (off*(sz+1)) (off*(sz+1))=true:=by simp
      cases k with
      |zero=>
       have:new=[]:=List.eq_nil_of_length_eq_zero (by rw[aQ];simp);subst this;rw[hr.nil_inv]at hc;have h0:off=0/\n*(sz+1)=l.length:=by omega
       obtain⟨rfl,Wq⟩:=h0;have hp:(l.drop (0*(sz+1))).take (n*(sz+1))++[]=l:=by simp[Wq]
       rw[hp];refine⟨.slice (some ⟨i,0*(sz+1),none⟩) n (cV+0),⟨mB x.I K (some i),⟨ug x.Y.h K (.vec l e' (sz+1) (bJ+1)),x.Y.nx⟩,x.s⟩,?_,by simp,Oo hx hg rfl (.inr rfl),Pa hx hg (some i) x.s (fun i b hb _=>hb) (fun j hj=>.inl (by cases hj;exact e1)) hx.bd k1 (fun y _ hm=>.inr ⟨i,l',rfl,e2,hm.ke.E e3.bel e3⟩)⟩;simp only[wJ,C9,AK,zD,yO,hd,dL,hi,hc,vD,zC,hcc,zD,uG,Nat.beq_refl,LY,Vi]
      |succ k=>have mZ:bA x ((l.drop (off*(sz+1))).take (n*(sz+1))++new) ((l'.drop (off*(sz+1))).take (n*(sz+1))++vs):=((e3.drop _).take _).append hr;have hpk:=S8 (YH (FG k1 (off*(sz+1))) (n*(sz+1))) hk;refine⟨.slice (some ⟨x.s.nx,0,none⟩) (n+(k+1)) cV,⟨mB x.I K (some x.s.nx),⟨ug x.Y.h K (.vec ((l.drop (off*(sz+1))).take (n*(sz+1))++new) e' (sz+1) (bJ+1)),x.Y.nx⟩,⟨(x.s.nx,.inl ((l'.drop (off*(sz+1))).take (n*(sz+1))++vs,e',sz+1+2))::rm x.s.h i,x.s.nx+1⟩⟩,?_,rfl,Oo hx hg rfl (.inr qq4),Pa hx hg (some x.s.nx) _ (fun j b hb cR=>?_) (fun i hi=>.inr (by cases hi;exact zF _)) (fun j b hb=>?_) hpk (fun y hy hm=>.inr ⟨x.s.nx,_,rfl,?_,hm.ke.E mZ.bel mZ⟩)⟩;simp only[wJ,C9,AK,zD,yO,hd,dL,hi,hc,kl hr hk,zC,Gf,hcc,zD,uG,Nat.beq_refl,LY,Vi,hz,f_ r1 r2];have:=hx.bd j b hb;have nZ:i≠j:=fun h=>cR (by rw[e1,h]);simp[mL,Gd,show x.s.nx≠j by omega,nZ,hb];simp only[mL,Gd]at hb ⊢;split at hb;omega;split at hb;cases hb;exact Nat.lt_succ_of_lt (hx.bd j b hb);simp[mL]
      cases h;simp[dC,he,eY]at h;simp[dC,he]at h;simp[dC]at h
     |_=>simp[hg]at h
    |_=>simp at h
  |_=>simp[hd,dL]at h
 |_=>simp[hd]at h
end
variable{es:X ME}
def w8.snoc{x:Cx}{vs:X MapEntry}(h:w8 x es vs){k v:U}{kv vv:Value}(hk:aC x k kv)(hv:aC x v vv)(b:Nat):w8 x (es++[⟨k,v,b⟩]) (vs++[⟨kv,vv,b⟩]):=by
 refine⟨by simp[h.1],fun i e he=>?_⟩;rw[List.getElem?_append]at he ⊢;rw[<-h.1];split at he;rename_i aE;simp only[aE,if_true];exact h.2 i e he;rename_i aE;simp only[aE,if_false];cases hj:i-es.length with
 |zero=>simp[hj]at he;subst he;exact⟨⟨kv,vv,b⟩,by simp,hk,hv,rfl⟩|succ j=>simp[hj]at he
def w8.mono{x y:Cx}(hm:Mo x.Y.nx x y){vs:X MapEntry}(h:w8 x es vs):w8 y es vs:=⟨h.1,fun j e he=>by
  obtain⟨v,q1,q2,q3,q4⟩:=h.2 j e he;exact⟨v,q1,hm.ke _ _ (aC.bel _ _ q2) q2,hm.ke _ _ (aC.bel _ _ q3) q3,q4⟩⟩
section
variable{T:Tb}{x:Cx}(hx:iZ x)
include hx
def z7u{m:U}{mv:Value}{r:Nat}{cl:Nat}(hm:aC x (.map r) mv)(hg:gt x.Y.h r=some (.map es cl)):∃i es',x.I r=some i/\mv=.map (some i)/\lk x.s.h i=some (.inr (es',cl))/\w8 x es es'/\Gm x.s i=some (es',cl):=by obtain⟨i,hi,rfl⟩:=qvf (x:=x) (by simp[live,hg,B.st]) hm;obtain⟨_,i',es',e1,e2,e3⟩:=hx.ok r _ hg;rw[hi]at e1;cases e1;exact⟨i,es',hi,rfl,e2,e3,by simp[Gm,e2]⟩
def z9n{r i:Nat}{es1:X ME}{es' Dv:X MapEntry}{cl cl1:Nat}(hg:gt x.Y.h r=some (.map es cl))(hi:x.I r=some i)(hl:lk x.s.h i=some (.inr (es',cl)))(hr:w8 x es1 Dv):
  Out x ⟨x.I,z08 x.Y r es1 cl1,aj x.s i Dv cl1⟩:=
 jc hx hg hi hl rfl qq4 fun y h1 h2 hm=>⟨i,Dv,h1,h2,hr.mono hm⟩
variable{Y':Sg}
def qsh{t xt:TypeId}{a b r:U}{va vb:Value}(h:jr T x.Y t xt a b=some (r,Y'))(ha:aC x a va)(hb:aC x b vb):∃v y,Oz T x.s t xt va vb=some (v,y.s)/\y.Y=Y'/\aC y r v/\Out x y:=by unfold jr at h;split at h;rename_i q hq;cases h;obtain⟨v,y,h1,h2,h3,h4⟩:=qx0 hx hq ha hb;exact⟨v,y,by simp only[Oz,h1],h2,h3,h4⟩;cases h
def z99{tm:X U}{tv:X Value}(ht:bA x tm tv){op:Op}{u:U}(h:qU T x.Y tm op=some (u,Y')):rZ T x tv op u Y':=by
 have fin:∀{v:Value}{y:Cx},jN T tv op=none->v6 T tv x.s op=none->AE T tv x.s op=some (v,y.s)->y.Y=Y'->aC y u v->Out x y->rZ T x tv op u Y':=fun{v y} h1 h2 h3 h4 h5 h6=>⟨v,y,qvs h1 h2 h3,h4,h5,h6⟩;unfold qU at h;cases op with
 |alloc e=>simp only at h;rcases hi:T.inf e with _|q;simp[hi]at h;obtain⟨a,b,z⟩:=q;simp only[hi]at h;rcases hz:pM z.cells.toList with _|zu;simp[hz]at h;simp only[hz]at h;rcases hk:okL zu with _|_;simp[hk]at h;simp only[hk,zC,zA,zB]at h;obtain⟨rfl,rfl⟩:=h;exact fin (v:=.pointer (some ⟨x.s.nx,0,none⟩)) rfl rfl (by simp only[AE,hi]) rfl (by simp only[aC];exact⟨rfl,Ot rfl ⟨_,rfl,rfl⟩⟩) (kz hx ((Y8 _ _ hz).2 x) hk e)
 |box e o=>simp only at h;rcases ho:cG tm o with _|a;simp[ho]at h;simp only[ho]at h;obtain⟨va,a1,a2⟩:=jF ht ho;rcases hc:vC a with _|cs;simp[hc]at h;simp only[hc]at h;obtain⟨c1,c2⟩:=Z_ a2 hc;simp only[c2,zC,zA,zB]at h;obtain⟨rfl,rfl⟩:=h;exact fin (v:=.pointer (some ⟨x.s.nx,0,none⟩)) rfl rfl (by simp only[AE,a1]) rfl (by simp only[aC];exact⟨rfl,Ot rfl ⟨_,rfl,rfl⟩⟩) (kz hx c1 c2 e)
 |store t a b=>simp only at h;rcases ha:cG tm a with _|au;simp[ha]at h;rcases hb:cG tm b with _|bu;simp[ha,hb]at h;simp only[ha,hb]at h;obtain⟨va,a1,a2⟩:=jF ht ha;obtain⟨vb,b1,b2⟩:=jF ht hb;obtain⟨v,y,h1,h2,h3,h4⟩:=z32 hx h a2 b2;exact fin rfl rfl (by simp only[AE,a1,b1,h1]) h2 h3 h4
 |buildSlice t n ps=>simp only at h;rcases hp:yM tm ps.toList with _|qs;simp[hp]at h;simp only[hp]at h;obtain⟨vs,h1,h2⟩:=Y_ ht hp;obtain⟨v,y,h3,h4,h5,h6⟩:=qr7 hx h h2;exact fin rfl rfl (by simp only[AE,h1,h3]) h4 h5 h6
 |makeSlice t a b=>simp only at h;rcases ha:cG tm a with _|au;simp[ha]at h;rcases hb:cG tm b with _|bu;simp[ha,hb]at h;simp only[ha,hb]at h;obtain⟨va,a1,a2⟩:=jF ht ha;obtain⟨vb,b1,b2⟩:=jF ht hb;obtain⟨v,y,h1,h2,h3,h4⟩:=z5e hx h a2 b2;exact fin rfl rfl (by simp only[AE,a1,b1,h1]) h2 h3 h4
 |makeMap t r=>
  cases r with
  |none=>simp only[zA,zB]at h;obtain⟨rfl,rfl⟩:=h;exact fin (v:=.map (some x.s.nx)) rfl rfl (by simp only[AE]) rfl (by simp only[aC];exact⟨rfl,Ot rfl ⟨_,rfl,rfl⟩⟩) (b_ hx (.map [] 0) (.inr ([],0)) fun y h1 h2 hm=>⟨_,[],h1,h2,rfl,by simp⟩)
  |some r=>simp at h
 |call c=>
  simp only at h;obtain⟨callee,args,ats⟩:=c;cases callee with
  |builtin b=>
   have two:∀{us:X U}{a b:U},oC tm args.toList=some us->us=[a,b]->∃va vb,oN tv args.toList=some [va,vb]/\aC x a va/\aC x b vb:=fun{us a b} h1 h2=>by subst h2;obtain⟨vs,a1,a2⟩:=YO ht h1;obtain⟨va,sS,rfl,r1,r2⟩:=a2.inv;obtain⟨vb,vs'',rfl,r3,r4⟩:=r2.inv;rw[r4.nil_inv]at a1;exact⟨va,vb,a1,r1,r3⟩
   cases b with
   |append=>simp only at h;split at h;rename_i a b t xt h1 h2;obtain⟨va,vb,e1,r1,r2⟩:=two h1 rfl;obtain⟨w,y,q1,q2,q3,q4⟩:=qsh hx h r1 r2;exact fin (by simp only[jN]) (by simp only[v6]) (by simp only[AE,e1,h2,q1]) q2 q3 q4;cases h
   |_=>simp at h
  |_=>simp at h
 |_=>simp at h
def ZS{tm:X U}{tv:X Value}(ht:bA x tm tv){op:Op}{u:U}(h:bI T x.Y tm op=some (u,Y')):rZ T x tv op u Y':=by
 unfold bI at h;cases h1:i4 T x.Y tm op with
 |some v=>simp only[h1,zA,zB]at h;obtain⟨rfl,rfl⟩:=h;exact z5y hx ht h1
 |none=>simp only[h1]at h;rcases h2:qX T x.Y tm op with _|v;simp only[h2]at h;exact z99 hx ht h;simp only[h2,zA,zB]at h;obtain⟨rfl,rfl⟩:=h;exact qwb hx ht h2
omit hx in
def z4f{tm:X U}{tv:X Value}(ht:bA x tm tv){op:Op}{f:FuncId}{args:X U}(h:jO T tm op=some (f,args)):∃vs,callOf T tv op=some (f,vs)/\bA x args vs:=by
 unfold jO at h;cases op with
 |call c=>
  simp only at h;obtain⟨callee,a7,ats⟩:=c;cases callee with
  |value o=>
   simp only at h;rcases ho:cG tm o with _|a;simp[ho]at h;obtain⟨va,a1,a2⟩:=jF ht ho;cases a with
   |fn fn first cap=>
    cases fn with
    |func g=>simp only[ho]at h;simp only[aC]at a2;obtain⟨p,q,rfl,r1,r2,r3,r4⟩:=a2;rcases hg:T.fn g with _|fd;simp[hg]at h;simp only[hg]at h;rcases iE:fd.body.isSome with _|_;simp[iE]at h;simp only[iE,zC]at h;rcases hl:oC tm a7.toList with _|us;simp[hl]at h;simp only[hl,zA,zB]at h;obtain⟨rfl,rfl⟩:=h;obtain⟨vs,e1,e2⟩:=YO ht hl;exact⟨p++vs++q,by simp only[callOf,a1,hg,iE,zC,e1],((show bA x first p from⟨r1,r2⟩).append e2).append ⟨r3,r4⟩⟩
    |_=>simp[ho]at h
   |_=>simp[ho]at h
  |_=>simp at h
 |_=>simp at h
end
end Go.Vx
