import Derived.IntWalk
import Derived.Test.YtldlchbgolpkaaaGreatP4
set_option linter.all false
namespace Go.Rx
open Go
def WP(P:Program)(c:Code)(tm:List Value)(s:S)(Q:Exit->List Value->S->Prop):Prop :=
 ∀m w a,fK m s w->rZ m s.nx tm a->a.defers=[]->
  c.wp P (fun e a' w'=>∃m' tm' s',Q e tm' s'/\bD m s w m' s' w'/\rZ m' s'.nx tm' a'/\a'.defers=[]) a w
def Less(s s':S):Prop:=s.nx<=s'.nx/\∀i b,lk s'.h i=some b->lk s.h i=some b
theorem bD.less{m:Nm}{s s':S}{w:World}(h:fK m s w)(hl:Less s s'):bD m s w m s' w:=by
 refine⟨aH.refl _ _,hl.1,fun m' ha=>?_,?_,fun _ _ _=>rfl,zF _,rfl,rfl,rfl⟩;have hf:=h m' (ha.mono hl.1);exact⟨fun i b hb=>hf.ok i b (hl.2 i b hb),fun i j b c hb hc=>hf.inj i j b c (hl.2 i b hb) (hl.2 j c hc),fun i b hb=>Nat.lt_of_lt_of_le (hf.bd i b (hl.2 i b hb)) hl.1⟩;rintro k ⟨j,d,hd,ho,rfl⟩;exact .inl ⟨j,d,hl.2 j d hd,ho,rfl⟩
theorem wrap_i64{x:Int}(h1 : -9223372036854775808<=x)(h2:x<=9223372036854775807):IntKind.i64.wrap x=x:=IntWalk.i64_in x ⟨h1,h2⟩
section
variable{P:Program}{Q:Exit->List Value->S->Prop}{tm:List Value}{s:S}
theorem WP.exit{id:Nat}(h:Q (.exit id) tm s):WP P (.exit id) tm s Q:=fun m _ _ hf ha hd=>wp_exit ⟨m,tm,s,h,bD.refl hf,ha,hd⟩
def bg(id:Nat)(Q:Exit->List Value->S->Prop):Exit->List Value->S->Prop
 |.exit id',tm,s=>if id'=id then Q .normal tm s else Q (.exit id') tm s|e,tm,s=>Q e tm s
theorem WP.block{id:Nat}{c:Code}(h:WP P c tm s (bg id Q)):WP P (.block id c) tm s Q:=fun m w a hf ha hd=>by
 refine wp_block (wp_mono (h m w a hf ha hd) ?_);rintro e a' w' ⟨m',tm',s',h1,h2,h3,h4⟩;cases e with
 |exit id'=>simp only[Exit.inBlock];simp only[bg]at h1;by_cases hid:id'=id;simp only[hid,if_true]at h1 ⊢;exact⟨m',tm',s',h1,h2,h3,h4⟩;simp only[hid,if_false]at h1 ⊢;exact⟨m',tm',s',h1,h2,h3,h4⟩|_=>exact⟨m',tm',s',h1,h2,h3,h4⟩
variable{T:Tb}(hT:iW P T){call:yY}(hC:UM P call)
include hT hC
end
def p0(tm:List Value)(op:Op):Option Value :=
 match op with
 |.move x=>evalO tm x|.assign x=>evalO tm x
 |.pick c a b=>match evalO tm c with
  |some (.bool true)=>evalO tm a|some (.bool false)=>evalO tm b
  |_=>none
 |.nilCheck x=>match evalO tm x with
  |some (.pointer (some a))=>some (.pointer (some a))|_=>none
 |.binOp op _ x y _=>match evalO tm x,evalO tm y with
  |some (.int k a),some (.int k' b)=>iG op k a k' b|_,_=>none
 |.unOp op _ x=>match evalO tm x with
  |some a=>J4 op a|none=>none
 |.makeFunc fn first cap=>match iH tm first.toList,iH tm cap.toList with
  |some a,some b=>some (.func fn a.toArray b.toArray)|_,_=>none
 |.extract x i=>match evalO tm x with
  |some a=>V3 a i|none=>none
 |.call c=>match c.callee with
  |.builtin .max=>match iH tm c.args.toList with
   |some (x::l)=>sW JP x l|_=>none
  |.builtin .min=>match iH tm c.args.toList with
   |some (x::l)=>sW JO x l|_=>none
  |_=>none
 |_=>none
section
variable{T:Tb}{call:yY}{ops rest:List Oper}{o:Oper}{tm:List Value}{s:S}{K:List Value->S->Prop}
end
section
variable{P:Program}{Q:Exit->List Value->S->Prop}{tm:List Value}{s:S}{T:Tb}(hT:iW P T){call:yY}(hC:UM P call)
include hT hC
end
end Go.Rx
namespace Go.Vx
open Go Go.Rx
inductive U where
 |junk
 |bool (b:Bool)
 |int (k:IntKind) (n:Int)
 |str (s:List UInt8)
 |nilp
 |ptr (k st off:Nat)
 |iptr (l:List U)
 |nils
 |sl (k off n c:Nat)
 |vl (k st off n:Nat)
 |isl (t:Bool) (l:List (List U))
 |nilm
 |map (k:Nat)
 |fn (f:Fn) (first cap:List U)
 |nilf
 |nili
 |agg (l:List U)
 |tup (l:List U)
 deriving Inhabited
def okC:U->Bool
 |.junk=>false|.agg _=>false
 |.tup _=>false|_=>true
def okL:List U->Bool
 |[]=>true|u::l=>cond (okC u) (okL l) false
theorem GO(l:List U):okL l=true↔∀u∈l,okC u=true:=by
 induction l with|nil=>simp[okL]|cons u l ih=>cases h:okC u<;>simp[okL,h,ih]
structure ME where
 key:U
 val:U
 born:Nat
inductive B where
 |row (l:List U) (e:TypeId)
 |vec (l:List U) (e:TypeId) (sz st:Nat)
 |map (es:List ME) (cl:Nat)
structure Sg where
 h:List (Nat×B)
 nx:Nat
def gt:List (Nat×B)->Nat->Option B
 |[],_=>none|(j,b)::h,i=>cond (Nat.beq j i) (some b) (gt h i)
def ug:List (Nat×B)->Nat->B->List (Nat×B)
 |[],_,_=>[]|(j,b)::h,i,c=>cond (Nat.beq j i) ((j,c)::h) ((j,b)::ug h i c)
def rg:List (Nat×B)->Nat->List (Nat×B)
 |[],_=>[]|(j,b)::h,i=>cond (Nat.beq j i) (rg h i) ((j,b)::rg h i)
theorem d8(j:Nat)(b:B)(h:List (Nat×B))(i:Nat):gt ((j,b)::h) i=if j=i then some b else gt h i:=by
 simp only[gt,beq_eq];by_cases e:j=i<;>simp[e]
theorem uO(h:List (Nat×B))(i:Nat)(c:B)(j:Nat):gt (ug h i c) j=if i=j then(gt h i).map (fun _=>c)else gt h j:=by
 induction h with|nil=>simp[ug,gt]|cons x h ih=>obtain⟨k,b⟩:=x;simp only[ug,beq_eq];by_cases e:k=i;subst e;simp only[yC,zC,d8];by_cases e2:k=j<;>simp[e2];simp only[e,yB,zD,d8,ih];by_cases e2:i=j;subst e2;simp[e];by_cases e3:k=j<;>simp[e2,e3]
theorem LO(h:List (Nat×B))(i j:Nat):gt (rg h i) j=if i=j then none else gt h j:=by
 induction h with|nil=>simp[rg,gt]|cons x h ih=>obtain⟨k,b⟩:=x;simp only[rg,beq_eq];by_cases e:k=i;subst e;simp only[yC,zC,d8,ih];by_cases e2:k=j<;>simp[e2];simp only[e,yB,zD,d8,ih];by_cases e2:i=j;subst e2;simp[e];by_cases e3:k=j<;>simp[e2,e3]
def B.st:B->Nat
 |.vec _ _ _ st=>st|_=>0
structure Cx where
 ρ:Nat->Option Nat
 σ:Sg
 s:S
def Ref(x:Cx)(k st:Nat)(p:Option Nat->Prop):Prop:=k<x.σ.nx/\∀b,gt x.σ.h k=some b->st<=b.st/\(st=b.st->p (x.ρ k))
def DZ(off n:Nat)(v:Value)(sz:Nat):Option Nat->Prop
 |none=>off=0/\n=0/\∃o,v=.slice o 0 0/\∀a,o=some a->a.spot=none|some i=>(0<off/\n=0/\∃a c,v=.slice (some a) 0 c/\a.spot=none)\/v=.slice (some ⟨i,off*sz,none⟩) n (bL+off)
mutual
def aA(x:Cx):U->Value->Prop
 |.junk,_=>True|.bool b,v=>v=.bool b
 |.int k n,v=>v=.int k n|.str l,v=>v=.string ⟨⟨l⟩⟩
 |.nilp,v=>v=.pointer none|.ptr k st off,v=>v.oneCell'=true/\Ref x k st fun o=>∃i,o=some i/\v=.pointer (some ⟨i,off,none⟩)
 |.iptr l,v=>∃i off row e,v=.pointer (some ⟨i,off,none⟩)/\lk x.s.h i=some (.inl (row,e,1))/\c8 x l (row.drop off)/\okL l=true|.nils,v=>v=.slice none 0 0
 |.sl k off n c,v=>v.oneCell'=true/\Ref x k 0 fun o=>∃i,o=some i/\v=.slice (some ⟨i,off,none⟩) n c/\c<bL/\n<=c
 |.vl k st off n,v=>v.oneCell'=true/\k<x.σ.nx/\∀b,gt x.σ.h k=some b->st<=b.st/\(st=b.st->∃l e sz,b=.vec l e sz st/\DZ off n v sz (x.ρ k))|.isl t l,v=>(l=[]/\(v=.slice none 0 0\/∃r,v=.chan (some r)))\/∃i off c,v=.slice (some ⟨i,off,none⟩) l.length c/\(t=true->c=l.length/\c<bL)/\
   (l=[]\/∃row e sz,lk x.s.h i=some (.inl (row,e,1))/\fY x sz l (row.drop off)/\ ((c<bL/\l.length<=c)\/(bL<=c/\e=sz+1/\0<sz/\off=bE c*sz/\off+l.length*sz<=row.length)))
 |.nilm,v=>v=.map none|.map k,v=>v.oneCell'=true/\Ref x k 0 fun o=>∃i,o=some i/\v=.map (some i)
 |.fn f a b,v=>∃va vb,v=.func f ⟨va⟩ ⟨vb⟩/\c8 x a va/\a.length=va.length/\c8 x b vb/\b.length=vb.length|.nilf,v=>v=.nilFunc
 |.nili,v=>v=.nilIface|.agg l,v=>∃vs,v=.agg ⟨vs⟩/\c8 x l vs/\l.length=vs.length/\okL l=true
 |.tup l,v=>∃vs,v=.tuple ⟨vs⟩/\c8 x l vs/\l.length=vs.length
def c8(x:Cx):List U->List Value->Prop
 |[],_=>True|u::us,vs=>match vs with
  |[]=>False|v::vs=>aA x u v/\c8 x us vs
def fY(x:Cx)(sz:Nat):List (List U)->List Value->Prop
 |[],_=>True|c::cs,vs=>c.length=sz/\okL c=true/\c8 x c vs/\fY x sz cs (vs.drop sz)
end
mutual
def aU(n:Nat):U->Prop
 |.ptr k _ _=>k<n|.sl k _ _ _=>k<n
 |.vl k _ _ _=>k<n|.map k=>k<n
 |.iptr l=>aG n l|.isl _ l=>jV n l
 |.fn _ a b=>aG n a/\aG n b|.agg l=>aG n l
 |.tup l=>aG n l|_=>True
def aG(n:Nat):List U->Prop
 |[]=>True|u::us=>aU n u/\aG n us
def jV(n:Nat):List (List U)->Prop
 |[]=>True|c::cs=>aG n c/\jV n cs
end
theorem BV(x:Cx):∀(l:List U)(vs:List Value),c8 x l vs↔∀(i:Nat)(u:U),l[i]? = some u->∃v,vs[i]? = some v/\aA x u v
 |[],vs=>by simp[c8]
 |u::us,[]=>by simp only[c8,false_iff];intro h;obtain⟨v,hv,_⟩:=h 0 u rfl;simp at hv
 |u::us,v::vs=>by
  simp only[c8,BV x us vs];constructor;rintro⟨h1,h2⟩ i w hi;cases i with
  |zero=>simp at hi;subst hi;exact⟨v,rfl,h1⟩|succ i=>simp at hi;simpa using h2 i w hi
  intro h;refine⟨?_,fun i w hi=>by simpa using h (i+1) w (by simpa using hi)⟩;obtain⟨v',h1,h2⟩:=h 0 u rfl;simp at h1;subst h1;exact h2
theorem xH(n:Nat):∀l:List U,aG n l↔∀u∈l,aU n u
 |[]=>by simp[aG]
 |u::us=>by simp[aG,xH n us]
theorem ce(n:Nat):∀l:List (List U),jV n l↔∀c∈l,aG n c
 |[]=>by simp[jV]
 |u::us=>by simp[jV,ce n us]
structure Mo(n:Nat)(x y:Cx):Prop where
 ref:∀k,k<n->k<x.σ.nx->k<y.σ.nx/\∀b',gt y.σ.h k=some b'->∃b,gt x.σ.h k=some b/\b.st<=b'.st/\(b.st=b'.st->y.ρ k=x.ρ k/\∀l e sz st,b=.vec l e sz st->∃l',b'=.vec l' e sz st)
 imm:∀i row e,lk x.s.h i=some (.inl (row,e,1))->lk y.s.h i=some (.inl (row,e,1))
variable{n:Nat}
variable{x:Cx}
variable{y:Cx}
theorem Mo.ref'(h:Mo n x y){k st:Nat}{p:Option Nat->Prop}(hk:k<n)(hr:Ref x k st p):Ref y k st p:=by
 obtain⟨h1,h2⟩:=hr;obtain⟨g1,g2⟩:=h.ref k hk h1;refine⟨g1,fun b' hb'=>?_⟩;obtain⟨b,e1,e2,e3⟩:=g2 b' hb';obtain⟨e4,e5⟩:=h2 b e1;refine⟨Nat.le_trans e4 e2,fun e=>?_⟩;have:b.st=b'.st:=by omega
 rw[(e3 this).1];exact e5 (by omega)
mutual
theorem aA.mono{n:Nat}{x y:Cx}(h:Mo n x y):(u:U)->(v:Value)->aU n u->aA x u v->aA y u v
 |.junk,v,_,_=>by simp[aA]
 |.bool b,v,_,hr=>by simpa[aA]using hr
 |.int k z,v,_,hr=>by simpa[aA]using hr
 |.str l,v,_,hr=>by simpa[aA]using hr
 |.nilp,v,_,hr=>by simpa[aA]using hr
 |.ptr k st off,v,hb,hr=>by simp only[aA]at*;exact⟨hr.1,h.ref' (by simpa[aU]using hb) hr.2⟩
 |.iptr l,v,hb,hr=>by simp only[aA]at*;obtain⟨i,off,row,e,h1,h2,h3,h4⟩:=hr;exact⟨i,off,row,e,h1,h.imm _ _ _ h2,c8.mono h l _ (by simpa[aU]using hb) h3,h4⟩
 |.nils,v,_,hr=>by simpa[aA]using hr
 |.sl k off m c,v,hb,hr=>by simp only[aA]at*;exact⟨hr.1,h.ref' (by simpa[aU]using hb) hr.2⟩
 |.vl k st off m,v,hb,hr=>by
  simp only[aA]at*;obtain⟨h0,h1,h2⟩:=hr;obtain⟨g1,g2⟩:=h.ref k (by simpa[aU]using hb) h1;refine⟨h0,g1,fun b' hb'=>?_⟩;obtain⟨b,e1,e2,e3⟩:=g2 b' hb';obtain⟨e4,e5⟩:=h2 b e1;refine⟨Nat.le_trans e4 e2,fun e=>?_⟩;have e6:b.st=b'.st:=by omega
  obtain⟨l,e',sz,e7,e8⟩:=e5 (by omega);obtain⟨e9,e10⟩:=e3 e6;obtain⟨l',e11⟩:=e10 _ _ _ _ e7;rw[e9];exact⟨l',e',sz,e11,e8⟩
 |.isl t l,v,hb,hr=>by simp only[aA]at*;rcases hr with hr |⟨i,off,c,h1,h2,h3⟩;exact .inl hr;refine .inr ⟨i,off,c,h1,h2,?_⟩;rcases h3 with h3 |⟨row,e,sz,g1,g2,g3⟩;exact .inl h3;exact .inr ⟨row,e,sz,h.imm _ _ _ g1,fY.mono h l _ (by simpa[aU]using hb) g2,g3⟩
 |.nilm,v,_,hr=>by simpa[aA]using hr
 |.map k,v,hb,hr=>by simp only[aA]at*;exact⟨hr.1,h.ref' (by simpa[aU]using hb) hr.2⟩
 |.fn f a b,v,hb,hr=>by simp only[aA]at*;obtain⟨va,vb,h1,h2,h3,h4,h5⟩:=hr;simp only[aU]at hb;exact⟨va,vb,h1,c8.mono h a _ hb.1 h2,h3,c8.mono h b _ hb.2 h4,h5⟩
 |.nilf,v,_,hr=>by simpa[aA]using hr
 |.nili,v,_,hr=>by simpa[aA]using hr
 |.agg l,v,hb,hr=>by simp only[aA]at*;obtain⟨vs,h1,h2,h3⟩:=hr;exact⟨vs,h1,c8.mono h l _ (by simpa[aU]using hb) h2,h3⟩
 |.tup l,v,hb,hr=>by simp only[aA]at*;obtain⟨vs,h1,h2,h3⟩:=hr;exact⟨vs,h1,c8.mono h l _ (by simpa[aU]using hb) h2,h3⟩
theorem c8.mono{n:Nat}{x y:Cx}(h:Mo n x y):(l:List U)->(vs:List Value)->aG n l->c8 x l vs->c8 y l vs
 |[],_,_,_=>by simp[c8]
 |u::us,[],_,hr=>by simp[c8]at hr
 |u::us,v::vs,hb,hr=>by simp only[c8,aG]at*;exact⟨aA.mono h u v hb.1 hr.1,c8.mono h us vs hb.2 hr.2⟩
theorem fY.mono{n sz:Nat}{x y:Cx}(h:Mo n x y):(l:List (List U))->(vs:List Value)->jV n l->fY x sz l vs->fY y sz l vs
 |[],_,_,_=>by simp[fY]
 |c::cs,vs,hb,hr=>by simp only[fY,jV]at*;exact⟨hr.1,hr.2.1,c8.mono h c vs hb.1 hr.2.2.1,fY.mono h cs _ hb.2 hr.2.2.2⟩
end
mutual
theorem aA.bel{x:Cx}:(u:U)->(v:Value)->aA x u v->aU x.σ.nx u
 |.ptr k st off,v,hr=>by simp only[aA,aU]at*;exact hr.2.1
 |.sl k off m c,v,hr=>by simp only[aA,aU]at*;exact hr.2.1
 |.vl k st off m,v,hr=>by simp only[aA,aU]at*;exact hr.2.1
 |.map k,v,hr=>by simp only[aA,aU]at*;exact hr.2.1
 |.iptr l,v,hr=>by simp only[aA,aU]at*;obtain⟨i,off,row,e,h1,h2,h3,_⟩:=hr;exact c8.bel l _ h3
 |.isl t l,v,hr=>by simp only[aA,aU]at*;rcases hr with⟨rfl,_⟩|⟨i,off,c,h1,h2,h3⟩;simp[jV];rcases h3 with rfl |⟨row,e,sz,g1,g2,_⟩;simp[jV];exact fY.bel l _ g2
 |.fn f a b,v,hr=>by simp only[aA,aU]at*;obtain⟨va,vb,h1,h2,h3,h4,h5⟩:=hr;exact⟨c8.bel a _ h2,c8.bel b _ h4⟩
 |.agg l,v,hr=>by simp only[aA,aU]at*;obtain⟨vs,h1,h2,h3⟩:=hr;exact c8.bel l _ h2
 |.tup l,v,hr=>by simp only[aA,aU]at*;obtain⟨vs,h1,h2,h3⟩:=hr;exact c8.bel l _ h2
 |.junk,_,_=>by simp[aU]
 |.bool _,_,_=>by simp[aU]
 |.int _ _,_,_=>by simp[aU]
 |.str _,_,_=>by simp[aU]
 |.nilp,_,_=>by simp[aU]
 |.nils,_,_=>by simp[aU]
 |.nilm,_,_=>by simp[aU]
 |.nilf,_,_=>by simp[aU]
 |.nili,_,_=>by simp[aU]
theorem c8.bel{x:Cx}:(l:List U)->(vs:List Value)->c8 x l vs->aG x.σ.nx l
 |[],_,_=>by simp[aG]
 |u::us,[],hr=>by simp[c8]at hr
 |u::us,v::vs,hr=>by simp only[c8,aG]at*;exact⟨aA.bel u v hr.1,c8.bel us vs hr.2⟩
theorem fY.bel{x:Cx}{sz:Nat}:(l:List (List U))->(vs:List Value)->fY x sz l vs->jV x.σ.nx l
 |[],_,_=>by simp[jV]
 |c::cs,vs,hr=>by simp only[fY,jV]at*;exact⟨c8.bel c vs hr.2.2.1,fY.bel cs _ hr.2.2.2⟩
end
def aX(x:Cx)(l:List U)(vs:List Value):Prop:=c8 x l vs/\l.length=vs.length
variable{l:List U}
variable{vs:List Value}
variable{u:U}
theorem aX.get(h:aX x l vs){i:Nat}(hu:l[i]? = some u):∃v,vs[i]? = some v/\aA x u v:=(BV x l vs).1 h.1 i u hu
theorem aX.mk'(hl:l.length=vs.length)(h:∀(i:Nat)(u:U),l[i]? = some u->∃v,vs[i]? = some v/\aA x u v):aX x l vs:=⟨(BV x l vs).2 h,hl⟩
theorem aX.nil(x:Cx):aX x [] []:=⟨by simp[c8],rfl⟩
theorem aX.cons{v:Value}(h:aA x u v)(h':aX x l vs):aX x (u::l) (v::vs):=⟨by simp[c8,h,h'.1],by simp[h'.2]⟩
theorem aX.inv(h:aX x (u::l) vs):∃v vs',vs=v::vs'/\aA x u v/\aX x l vs':=by
 obtain⟨h1,h2⟩:=h;rcases vs with _|⟨v,vs⟩;simp at h2;simp only[c8]at h1;exact⟨v,vs,rfl,h1.1,h1.2,by simpa using h2⟩
theorem aX.nil_inv(h:aX x [] vs):vs=[]:=by
 have:=h.2;simpa using this.symm
theorem aX.append{a b:List U}{va vb:List Value}(h:aX x a va)(h':aX x b vb):aX x (a++b) (va++vb):=by
 induction a generalizing va with|nil=>rw[h.nil_inv];exact h'|cons u a ih=>obtain⟨v,vs,rfl,h1,h2⟩:=h.inv;exact aX.cons h1 (ih h2)
theorem aX.drop{x:Cx}{a:List U}{va:List Value}(h:aX x a va)(n:Nat):aX x (a.drop n) (va.drop n):=by
 refine aX.mk' (by simp[h.2]) fun i u hu=>?_;rw[List.getElem?_drop]at hu ⊢;exact h.get hu
theorem aX.take{x:Cx}{a:List U}{va:List Value}(h:aX x a va)(n:Nat):aX x (a.take n) (va.take n):=by
 refine aX.mk' (by simp[h.2]) fun i u hu=>?_;rw[List.getElem?_take]at hu ⊢;split at hu;rename_i hlt;simp only[hlt,if_true];exact h.get hu;cases hu
theorem aX.set{x:Cx}{a:List U}{va:List Value}(h:aX x a va)(n:Nat){u:U}{v:Value}(hu:aA x u v):aX x (a.set n u) (va.set n v):=by
 refine aX.mk' (by simp[h.2]) fun i w hw=>?_;rw[List.getElem?_set]at hw ⊢;split at hw;split at hw;cases hw;rename_i h1 h2;subst h1;rw[h.2]at h2;simp[h2,hu];cases hw;rename_i hne;simp only[hne,if_false];exact h.get hw
theorem aX.mono{n:Nat}{x y:Cx}(h:Mo n x y){l:List U}{vs:List Value}(hb:aG n l)(hr:aX x l vs):aX y l vs:=⟨c8.mono h l vs hb hr.1,hr.2⟩
theorem c8.takeE(h:c8 x l vs):aX x l (vs.take l.length):=by
 refine aX.mk' ?_ fun i u hu=>?_;rcases Nat.lt_or_ge vs.length l.length with hlt |hge
 have hu:l[vs.length]? = some l[vs.length]:=by simp[hlt]
 obtain⟨v,hv,_⟩:=(BV x l vs).1 h _ _ hu;simp at hv;simp;omega;obtain⟨v,hv,hr⟩:=(BV x l vs).1 h i u hu;have:i<l.length:=(zG.1 hu).1;exact⟨v,by rw[List.getElem?_take];simp[this,hv],hr⟩
theorem c8.len(h:c8 x l vs):l.length<=vs.length:=by
 have:=h.takeE.2;rw[List.length_take]at this;omega
theorem c8.drop{x:Cx}{l:List U}{vs:List Value}(h:c8 x l vs)(n:Nat):c8 x (l.drop n) (vs.drop n):=by
 rw[BV]at*;intro i u hu;rw[List.getElem?_drop]at hu ⊢;exact h _ _ hu
def pA(x:Cx)(es:List ME)(vs:List MapEntry):Prop:=es.length=vs.length/\∀(i:Nat)(e:ME),es[i]? = some e->∃v:MapEntry,vs[i]? = some v/\aA x e.key v.key/\aA x e.val v.val/\v.born=e.born
def lO(x:Cx)(k:Nat):B->Prop
 |.row l e=>okL l=true/\∃i l',x.ρ k=some i/\lk x.s.h i=some (.inl (l',e,0))/\aX x l l'|.vec l e sz _=>okL l=true/\0<sz/\(l=[]/\x.ρ k=none\/∃i l',x.ρ k=some i/\lk x.s.h i=some (.inl (l',e,sz+2))/\aX x l l')
 |.map es cl=>∃i es',x.ρ k=some i/\lk x.s.h i=some (.inr (es',cl))/\pA x es es'
structure iC(x:Cx):Prop where
 ok:∀k b,gt x.σ.h k=some b->k<x.σ.nx/\lO x k b
 inj:∀k k' b b' i,gt x.σ.h k=some b->gt x.σ.h k'=some b'->x.ρ k=some i->x.ρ k'=some i->k=k'
 bd:∀i b,lk x.s.h i=some b->i<x.s.nx
def Fr(F:Nat->iZ->Prop)(x:Cx):Prop:=∀i b,F i b->lk x.s.h i=some b/\∀k c,gt x.σ.h k=some c->x.ρ k≠some i
def Ke(n:Nat)(x y:Cx):Prop:=∀u v,aU n u->aA x u v->aA y u v
theorem Ke.refl(n:Nat)(x:Cx):Ke n x x:=fun _ _ _ h=>h
theorem Ke.trans{z:Cx}(h:Ke n x y)(h':Ke n y z):Ke n x z:=fun u v hb hr=>h' u v hb (h u v hb hr)
mutual
theorem aU.le{n k:Nat}(h:n<=k):(u:U)->aU n u->aU k u
 |.ptr a _ _,hb=>by simp only[aU]at*;omega
 |.sl a _ _ _,hb=>by simp only[aU]at*;omega
 |.vl a _ _ _,hb=>by simp only[aU]at*;omega
 |.map a,hb=>by simp only[aU]at*;omega
 |.iptr l,hb=>by simp only[aU]at*;exact aG.le h l hb
 |.isl t l,hb=>by simp only[aU]at*;exact jV.le h l hb
 |.fn f a b,hb=>by simp only[aU]at*;exact⟨aG.le h a hb.1,aG.le h b hb.2⟩
 |.agg l,hb=>by simp only[aU]at*;exact aG.le h l hb
 |.tup l,hb=>by simp only[aU]at*;exact aG.le h l hb
 |.junk,_=>by simp[aU]
 |.bool _,_=>by simp[aU]
 |.int _ _,_=>by simp[aU]
 |.str _,_=>by simp[aU]
 |.nilp,_=>by simp[aU]
 |.nils,_=>by simp[aU]
 |.nilm,_=>by simp[aU]
 |.nilf,_=>by simp[aU]
 |.nili,_=>by simp[aU]
theorem aG.le{n k:Nat}(h:n<=k):(l:List U)->aG n l->aG k l
 |[],_=>by simp[aG]
 |u::us,hb=>by simp only[aG]at*;exact⟨aU.le h u hb.1,aG.le h us hb.2⟩
theorem jV.le{n k:Nat}(h:n<=k):(l:List (List U))->jV n l->jV k l
 |[],_=>by simp[jV]
 |u::us,hb=>by simp only[jV]at*;exact⟨aG.le h u hb.1,jV.le h us hb.2⟩
end
theorem Ke.le{n k:Nat}{x y:Cx}(h:Ke k x y)(hk:n<=k):Ke n x y:=fun u v hb hr=>h u v (aU.le hk u hb) hr
theorem Mo.ke(h:Mo n x y):Ke n x y:=fun u v hb hr=>aA.mono h u v hb hr
theorem Ke.E(h:Ke n x y)(hb:aG n l)(hr:aX x l vs):aX y l vs :=
 aX.mk' hr.2 fun i u hu=>by obtain⟨v,h1,h2⟩:=hr.get hu;exact⟨v,h1,h u v ((xH n l).1 hb u (zX hu)) h2⟩
theorem aX.bel{x:Cx}{l:List U}{vs:List Value}(hr:aX x l vs):aG x.σ.nx l:=c8.bel l vs hr.1
mutual
def toV:U->Option Value
 |.bool b=>some (.bool b)|.int k n=>some (.int k n)
 |.str s=>some (.string ⟨⟨s⟩⟩)|.nilp=>some (.pointer none)
 |.nils=>some (.slice none 0 0)|.nilm=>some (.map none)
 |.nilf=>some .nilFunc|.nili=>some .nilIface
 |.agg l=>cond (okL l) (match dK l with
  |some vs=>some (.agg ⟨vs⟩)|none=>none) none
 |_=>none
def dK:List U->Option (List Value)
 |[]=>some []|u::l=>match toV u with
  |some v=>(match dK l with
   |some vs=>some (v::vs)|none=>none)
  |none=>none
end
mutual
def fU:Value->Option U
 |.bool b=>some (.bool b)|.int k n=>some (.int k n)
 |.string s=>some (.str s.data.toList)|.pointer none=>some .nilp
 |.slice none n c=>match n,c with
  |0,0=>some .nils|_,_=>none
 |.map none=>some .nilm|.nilFunc=>some .nilf
 |.nilIface=>some .nili|.agg ⟨l⟩=>match mR l with
  |some us=>cond (okL us) (some (.agg us)) none|none=>none
 |_=>none
def mR:List Value->Option (List U)
 |[]=>some []|v::l=>match fU v with
  |some u=>(match mR l with
   |some us=>some (u::us)|none=>none)
  |none=>none
end
def sC:U->Option (List U)
 |.junk=>none|.tup _=>none
 |.agg l=>some l|u=>some [u]
def bP(tm:List U):Operand->Option U
 |.tmp t=>nth tm t|.const v=>fU v
 |.func f=>some (.fn (.func f) [] [])|.global _=>none
def jJ(tm:List U):List Operand->Option (List U)
 |[]=>some []|x::l=>match bP tm x with
  |some v=>(match jJ tm l with
   |some r=>some (v::r)|none=>none)
  |none=>none
def tY(tm:List U):List (Nat×Operand)->Option (List (Nat×U))
 |[]=>some []|(i,x)::l=>match bP tm x with
  |some v=>(match tY tm l with
   |some r=>some ((i,v)::r)|none=>none)
  |none=>none
def sA(tm:List U):Option Operand->Option (Option Value)
 |none=>some none|some x=>match bP tm x with
  |some (.int k n)=>some (some (.int k n))|_=>none
def bH(σ:Sg)(k st:Nat):Bool:=match gt σ.h k with
 |some b=>Nat.beq b.st st|none=>false
def cellsOf(σ:Sg)(k st:Nat):Option (List U):=match gt σ.h k with
 |some (.row l _)=>cond (Nat.beq 0 st) (some l) none|some (.vec l _ _ st')=>cond (Nat.beq st' st) (some l) none
 |_=>none
def rowOf(σ:Sg)(k:Nat):Option (List U):=match gt σ.h k with
 |some (.row l _)=>some l|_=>none
def rD(σ:Sg)(k st:Nat):Option (List U×TypeId×Nat):=match gt σ.h k with
 |some (.vec l e sz st')=>cond (Nat.beq st' st) (some (l,e,sz)) none|_=>none
def ED(σ:Sg)(k:Nat)(l:List U):Option Sg:=match gt σ.h k with
 |some (.row _ e)=>some ⟨ug σ.h k (.row l e),σ.nx⟩|some (.vec _ e sz st)=>some ⟨ug σ.h k (.vec l e sz st),σ.nx⟩
 |_=>none
def iO(l:List U)(off n:Nat):Option (List U):=if off+n<=l.length then some ((l.drop off).take n)else none
def mQ(l:List U)(off:Nat)(vs:List U):Option (List U):=if off+vs.length<=l.length then some (l.take off++(vs++l.drop (off+vs.length)))else none
def Kh(T:Tb)(t:TypeId)(cs:List U)(off:Nat):Option U :=
 match T.und t with
 |none=>none|some d=>cond (nZ d) (match bZ T t with
   |some n=>some (.agg ((cs.drop off).take n))|none=>none) (nth cs off)
def pU(place:Nat->Option (Nat×Nat))(cells:List U):List (Nat×U)->Option (List U)
 |[]=>some cells|(i,v)::rest=>match place i with
  |none=>none|some (off,size)=>match sC v with
   |none=>none|some cs=>cond (Nat.beq cs.length size) (match mQ cells off cs with
    |some c=>pU place c rest|none=>none) none
def UJ(T:Tb)(t:TypeId)(ps:List (Nat×U)):Option U :=
 match T.inf t with
 |none=>none|some (_,_,z)=>match mR z.cells.toList with
  |none=>none|some zu=>match T.und t with
   |some (.struct fs)=>cond (BM T fs.toList) (match pU (EM T fs.toList) zu ps with
    |some cs=>cond (okL cs) (some (.agg cs)) none|none=>none) none
   |some (.array _ e)=>(match bZ T e with
    |none=>none|some n=>match pU (fun i=>some (i*n,n)) zu ps with
     |some cs=>cond (okL cs) (some (.agg cs)) none|none=>none)
   |_=>none
def g1(f:Value->Option Value)(u:U):Option U:=match toV u with
 |some v=>(match f v with
  |some r=>fU r|none=>none)
 |none=>none
def g2(f:Value->Value->Option Value)(a b:U):Option U:=match toV a with
 |some x=>(match toV b with
  |some y=>(match f x y with
   |some r=>fU r|none=>none)
  |none=>none)
 |none=>none
def dG(σ:Sg):U->Nat
 |.ptr k st _=>cond (bH σ k st) 1 0|.iptr _=>1
 |.sl k _ _ _=>cond (bH σ k 0) 2 0|.vl k st _ (_+1)=>cond (bH σ k st) 2 0
 |.isl _ (_::_)=>2|.map k=>cond (bH σ k 0) 3 0
 |_=>0
def xF:U->Nat
 |.nilp=>1|.nils=>2
 |.nilm=>3|_=>0
def pB(T:Tb)(t:TypeId):Nat:=match T.und t with
 |some (.pointer _)=>1|some (.slice _)=>2
 |some (.map _ _)=>3|_=>0
def N5:BinOp->Option U
 |.eql=>some (.bool false)|.neq=>some (.bool true)
 |_=>none
def GH(T:Tb)(σ:Sg)(op:BinOp)(t:TypeId)(x y:U):Option U :=
 cond (Nat.beq (pB T t) 0) none (cond (cond (Nat.beq (dG σ x) (pB T t)) (Nat.beq (xF y) (pB T t)) (cond (Nat.beq (xF x) (pB T t)) (Nat.beq (dG σ y) (pB T t)) false)) (N5 op) none)
def IU(T:Tb)(σ:Sg)(op:BinOp)(t:TypeId)(x y:U):Option U:=match g2 (mT T op t) x y with
 |some r=>some r|none=>GH T σ op t x y
def JZ(T:Tb)(σ:Sg)(st:TypeId)(x:U)(f:Nat):Option U :=
 match T.und st with
 |some (.struct fs)=>match nth fs.toList f with
  |some fd=>(match bZ T fd.type with
   |some (_+1)=>match x with
    |.ptr k s off=>cond (bH σ k s) (some (.ptr k s (off+fd.offset))) none|.iptr l=>some (.iptr (l.drop fd.offset))
    |_=>none
   |_=>none)
  |none=>none
 |_=>none
def Um(T:Tb)(st:TypeId)(x:U)(f:Nat):Option U :=
 match T.und st with
 |some (.struct fs)=>match nth fs.toList f with
  |some fd=>(match x with
   |.agg cs=>Kh T fd.type cs fd.offset|_=>none)
  |none=>none
 |_=>none
def uR(T:Tb)(σ:Sg)(t:TypeId)(x ix:U):Option U :=
 match ix with
 |.int _ i=>match T.und t with
  |some (.slice e)=>(match bZ T e with
   |some sz=>match x with
    |.sl k off n _=>cond (bH σ k 0) (if 0<=i/\i<n then some (.ptr k 0 (off+i.toNat*sz))else none) none|.vl k st off n=>(match rD σ k st with
     |some (l,_,sz')=>cond (Nat.beq sz' sz) (if 0<=i/\i<n/\l≠[]then some (.ptr k st (off*sz+i.toNat*sz))else none) none|none=>none)
    |.isl _ l=>if 0<=i/\i<l.length then(match l[i.toNat]? with
     |some c=>cond (Nat.beq c.length sz) (some (.iptr c)) none|none=>none)else none
    |_=>none
   |none=>none)
  |some (.array n e)=>(match bZ T e with
   |some sz=>match x with
    |.ptr k st off=>cond (bH σ k st) (if 0<=i/\i<n then some (.ptr k st (off+i.toNat*sz))else none) none|.iptr l=>if 0<=i/\i<n then some (.iptr (l.drop (i.toNat*sz)))else none
    |_=>none
   |none=>none)
  |_=>none
 |_=>none
def Ll(T:Tb)(t:TypeId)(x ix:U):Option U :=
 match x with
 |.agg cs=>(match ix with
  |.int _ i=>match T.und t with
   |some (.array n e)=>(if 0<=i/\i<n then(match bZ T e with
    |some sz=>Kh T e cs (i.toNat*sz)|none=>none)else none)
   |_=>none
  |_=>none)
 |_=>g2 (OY T t) x ix
def Mr(x:U)(i:Nat):Option U:=match x with
 |.tup vs=>nth vs i|_=>none
def lenU(T:Tb)(σ:Sg)(t:TypeId)(x:U):Option U:=match T.und t with
 |some (.slice _)=>(match x with
  |.nils=>some (.int .i64 0)|.sl k _ n _=>cond (bH σ k 0) (some (.int .i64 n)) none
  |.vl k st _ n=>cond (bH σ k st) (some (.int .i64 n)) none|.isl _ l=>some (.int .i64 l.length)
  |_=>none)
 |some .string=>(match x with
  |.str s=>some (.int .i64 s.length)|_=>none)
 |some (.array n _)=>(match x with
  |.junk=>none|_=>some (.int .i64 n))
 |some (.map _ _)=>(match x with
  |.nilm=>some (.int .i64 0)|.map k=>(match gt σ.h k with
   |some (.map es _)=>some (.int .i64 es.length)|_=>none)
  |_=>none)
 |_=>none
def y8(T:Tb)(σ:Sg)(t:TypeId)(x:U):Option U:=match T.und t with
 |some (.slice _)=>(match x with
  |.nils=>some (.int .i64 0)|.sl k _ _ c=>cond (bH σ k 0) (some (.int .i64 c)) none
  |_=>none)
 |_=>none
def mS{α:Type}(l:List α)(lo hi:Nat):List α:=(l.take hi).drop lo
def BL(T:Tb)(σ:Sg)(t:TypeId)(x:U)(lo hi mx:Option Value):Option U :=
 match T.und t with
 |some .string=>(match x with
  |.str s=>(match mx with
   |some _=>none|none=>match fF s.length s.length lo hi none with
    |some (l,h,_)=>some (.str (mS s l h))|none=>none)
  |_=>none)
 |some (.slice e)=>(match bZ T e with
  |some sz=>match x with
   |.nils=>(match fF 0 0 lo hi mx with
    |some _=>some .nils|none=>none)
   |.sl k off n c=>cond (bH σ k 0) (match fF n c lo hi mx with
    |some (l,h,m)=>some (.sl k (cond (Nat.beq m l) off (off+l*sz)) (h-l) (m-l))|none=>none) none
   |.vl k st off n=>(match rD σ k st with
    |some (r,_,sz')=>cond (Nat.beq sz' sz) (match mx with
     |some _=>none|none=>match fF n n lo hi none with
      |some (l,h,_)=>if(off+n)*sz<=r.length then some (.vl k st (off+l) (h-l))else none|none=>none) none
    |none=>none)
   |.isl t l=>if(l.all fun c=>Nat.beq c.length sz)=true then(match fF l.length l.length lo hi mx with
    |some (a,h,m)=>(match mx with
      |some _=>if m<bL then some (.isl (Nat.beq m h) (mS l a h))else none|none=>some (.isl (cond t (Nat.beq h l.length) false) (mS l a h)))
    |none=>none)else none
   |_=>none
  |none=>none)
 |_=>none
def eU(T:Tb)(σ:Sg)(tm:List U)(op:Op):Option U :=
 match op with
 |.move x=>bP tm x|.assign x=>bP tm x
 |.pick c a b=>(match bP tm c with
  |some (.bool true)=>bP tm a|some (.bool false)=>bP tm b
  |_=>none)
 |.build t ps=>(match tY tm ps.toList with
  |some qs=>UJ T t qs|none=>none)
 |.nilCheck x=>(match bP tm x with
  |some (.ptr k st off)=>cond (bH σ k st) (some (.ptr k st off)) none|some (.iptr l)=>some (.iptr l)
  |some (.fn (.func f) a b)=>some (.fn (.func f) a b)|_=>none)
 |.binOp op t x y _=>(match bP tm x,bP tm y with
  |some a,some b=>IU T σ op t a b|_,_=>none)
 |.unOp op _ x=>(match bP tm x with
  |some a=>g1 (J4 op) a|none=>none)
 |.convert s d x=>(match bP tm x with
  |some a=>g1 (convX T s d) a|none=>none)
 |.makeFunc fn first cap=>(match jJ tm first.toList,jJ tm cap.toList with
  |some a,some b=>some (.fn fn a b)|_,_=>none)
 |.slice t x lo hi mx=>(match bP tm x,sA tm lo,sA tm hi,sA tm mx with
  |some a,some l,some h,some m=>BL T σ t a l h m|_,_,_,_=>none)
 |.fieldAddr t x f=>(match bP tm x with
  |some a=>JZ T σ t a f|none=>none)
 |.field t x f=>(match bP tm x with
  |some a=>Um T t a f|none=>none)
 |.indexAddr t x i=>(match bP tm x,bP tm i with
  |some a,some b=>uR T σ t a b|_,_=>none)
 |.index t x i=>(match bP tm x,bP tm i with
  |some a,some b=>Ll T t a b|_,_=>none)
 |.extract x i=>(match bP tm x with
  |some a=>Mr a i|none=>none)
 |.call c=>(match c.callee with
  |.builtin .len=>(match jJ tm c.args.toList,c.argTypes.toList with
   |some [x],t::_=>lenU T σ t x|_,_=>none)
  |.builtin .cap=>(match jJ tm c.args.toList,c.argTypes.toList with
   |some [x],t::_=>y8 T σ t x|_,_=>none)
  |.builtin .max=>(match jJ tm c.args.toList with
   |some (x::l)=>(match toV x,dK l with
    |some a,some b=>(match sW JP a b with
     |some r=>fU r|none=>none)
    |_,_=>none)
   |_=>none)
  |.builtin .min=>(match jJ tm c.args.toList with
   |some (x::l)=>(match toV x,dK l with
    |some a,some b=>(match sW JO a b with
     |some r=>fU r|none=>none)
    |_,_=>none)
   |_=>none)
  |_=>none)
 |_=>none
def uP(T:Tb)(kt:TypeId)(k:Value):List ME->Nat->Option (Option (Nat×U))
 |[],_=>some none|e::es,i=>match toV e.key with
  |none=>none|some k'=>match eqv T 50 kt k k' with
   |some true=>some (some (i,e.val))|some false=>uP T kt k es (i+1)
   |none=>none
def yX(T:Tb)(t:TypeId)(l:List U)(off:Nat):Option U:=match T.und t with
 |none=>none|some d=>cond (nZ d) (match bZ T t with
   |some n=>(match iO l off n with
    |some cs=>some (.agg cs)|none=>none)
   |none=>none) (nth l off)
def kI(T:Tb)(σ:Sg)(tm:List U)(op:Op):Option U :=
 match op with
 |.load t x=>(match bP tm x with
  |some (.ptr k st off)=>(match cellsOf σ k st with
   |some l=>yX T t l off|none=>none)
  |some (.iptr l)=>yX T t l 0|_=>none)
 |.lookup t x k ok=>(match T.und t,bP tm x,bP tm k with
  |some (.map kt et),some m,some ku=>(match toV ku with
   |none=>none|some kv=>cond (lS T 50 kt kv)
    (match (match m with
      |.nilm=>some []|.map r=>(match gt σ.h r with
       |some (.map es _)=>some es|_=>none)
      |_=>none)with
     |none=>none|some es=>match uP T kt kv es 0 with
      |none=>none|some (some (_,v))=>some (cond ok (.tup [v,.bool true]) v)
      |some none=>match T.inf et with
       |some (_,_,z)=>(match fU z with
        |some zu=>some (cond ok (.tup [zu,.bool false]) zu)|none=>none)
       |none=>none) none)
  |_,_,_=>none)
 |_=>none
def XY:U->U
 |.nils=>.isl false []|.isl _ l=>.isl false l
 |u=>u
def nU:List U->List U
 |[]=>[]|u::l=>XY u::nU l
def cY(σ:Sg)(b:B):Sg:=⟨(σ.nx,b)::σ.h,σ.nx+1⟩
def rC(σ:Sg)(sz:Nat)(x:U):Option (Nat×List U):=match x with
 |.nils=>some (0,[])|.isl _ l=>if(l.all fun c=>Nat.beq c.length sz)=true then some (l.length,l.flatten)else none
 |.sl k off n _=>(match rowOf σ k with
  |some l=>(match iO l off (n*sz)with
   |some cs=>some (n,nU cs)|none=>none)
  |none=>none)
 |.vl k st off n=>(match rD σ k st with
  |some (l,_,sz')=>cond (Nat.beq sz' sz) (match iO l (off*sz) (n*sz)with
   |some cs=>some (n,cs)|none=>none) none
  |none=>none)
 |_=>none
def EN(T:Tb)(σ:Sg)(t xt:TypeId)(s x:U):Option (U×Sg):=
 match T.und t,T.und xt with
 |some (.slice e),some (.slice _)=>(match T.inf e with
  |some (sz+1,by_,z)=>cond (Nat.beq z.cells.toList.length (sz+1)) (match rC σ (sz+1) x with
   |none=>none|some (k,new)=>match s with
    |.nils=>if k*by_<=140737488355328/\k<=140737488355328 then some (.vl σ.nx 0 0 k,cY σ (.vec new e (sz+1) 0))else none|.isl true l=>if(l.length+k)*by_<=140737488355328/\l.length+k<=140737488355328/\0<k/\(l.all fun c=>Nat.beq c.length (sz+1))=true then some (.vl σ.nx 0 0 (l.length+k),cY σ (.vec (l.flatten++new) e (sz+1) 0))else none
    |.sl a off n c=>(match rowOf σ a with
     |none=>none|some l=>match iO l off (n*(sz+1))with
      |none=>none|some old=>if n=0/\c=0 then(if k*by_<=140737488355328/\k<=140737488355328 then some (.vl σ.nx 0 0 k,cY σ (.vec new e (sz+1) 0))else none)
       else if c<n+k then(if(n+k)*by_<=140737488355328/\n+k<=140737488355328/\0<k then some (.vl σ.nx 0 0 (n+k),cY σ (.vec (nU old++new) e (sz+1) 0))else none)else none)
    |.vl a st off n=>(match gt σ.h a with
     |some (.vec l e' sz' st')=>cond (Nat.beq st' st) (cond (Nat.beq e' e) (cond (Nat.beq sz' (sz+1)) (match iO l (off*(sz+1)) (n*(sz+1))with
      |none=>none|some p=>if(n+k)*by_<=140737488355328/\n+k<=140737488355328/\(0<k/\(off=0\/0<n)\/off=0/\n*(sz+1)=l.length)then some (.vl a (st+1) 0 (n+k),⟨ug σ.h a (.vec (p++new) e (sz+1) (st+1)),σ.nx⟩)else none) none) none) none
     |_=>none)
    |_=>none) none
  |_=>none)
 |_,_=>none
def Xm(T:Tb)(σ:Sg)(t xt:TypeId)(s x:U):Option (U×Sg):=
 match T.und t,T.und xt,s,x with
 |some (.slice e),some (.int _),.nils,.int _ i=>(match T.inf e with
  |some (sz+1,by_,z)=>(match mR z.cells.toList with
   |some zu=>if 0<i/\i.toNat*by_<=140737488355328/\i.toNat<=140737488355328/\z.cells.toList.length=sz+1/\okL zu=true then
     some (.vl σ.nx 0 0 i.toNat,cY σ (.vec (nU (List.replicate i.toNat zu).flatten) e (sz+1) 0))else none
   |none=>none)
  |_=>none)
 |_,_,_,_=>none
def Mt(T:Tb)(σ:Sg)(t xt:TypeId)(s x:U):Option (U×Sg):=match EN T σ t xt s x with
 |some r=>some r|none=>Xm T σ t xt s x
def Tw(T:Tb)(σ:Sg)(t:TypeId)(d x:U):Option (U×Sg):=
 match T.und t with
 |some (.slice e)=>(match bZ T e with
  |none=>none|some sz=>match rC σ sz x with
   |none=>none|some (k,cs)=>match d with
    |.sl a off n _=>(match rowOf σ a with
     |some l=>if n=0\/k=0\/sz=0 then none else(match mQ l off (cs.take (Nat.min k n*sz))with
      |some l'=>(match ED σ a l' with
       |some σ'=>some (.int .i64 (Nat.min k n),σ')|none=>none)
      |none=>none)
     |none=>none)
    |_=>none)
 |_=>none
def yT(σ:Sg)(k:Nat)(cs:List U):List U:=match gt σ.h k with
 |some (.vec _ _ _ _)=>nU cs|_=>cs
def OQ(T:Tb)(σ:Sg)(t:TypeId)(p u:U):Option (U×Sg):=
 match p with
 |.ptr k st off=>(match bZ T t with
  |none=>none|some n=>match sC u with
   |none=>none|some cs=>cond (Nat.beq cs.length n) (cond (okL cs) (match cellsOf σ k st with
    |some l=>(match mQ l off (yT σ k cs)with
     |some l'=>(match ED σ k l' with
      |some σ'=>some (.junk,σ')|none=>none)
     |none=>none)
    |none=>none) none) none)
 |_=>none
def qK(z:List U)(n:Nat):List U:=(List.replicate n z).flatten
def XN(T:Tb)(σ:Sg)(t:TypeId)(l c:U):Option (U×Sg):=
 match T.und t,l,c with
 |some (.slice e),.int _ a,.int _ b=>(match T.inf e with
  |some (sz,by_,z)=>(match mR z.cells.toList with
   |some zu=>cond (okL zu) (cond (Nat.beq z.cells.toList.length sz) (if 0<=a/\a<=b/\by_*b.toNat<=281474976710656/\b<=281474976710656 then
     some (.sl σ.nx 0 a.toNat b.toNat,cY σ (.row (qK (nU zu) b.toNat) e))else none) none) none
   |none=>none)
  |none=>none)
 |_,_,_=>none
def Uq(T:Tb)(σ:Sg)(t:TypeId)(x:U):Option (U×Sg):=
 match T.und t with
 |some (.slice e)=>(match T.inf e with
  |some (sz,_,z)=>(match mR z.cells.toList with
   |some zu=>cond (okL zu) (cond (Nat.beq z.cells.toList.length sz) (match x with
    |.vl k st off n=>(match rD σ k st with
     |some (l,e',sz')=>cond (Nat.beq sz' sz) (if n=0 then some (.junk,σ)else(match mQ l (off*sz) (qK (nU zu) n)with
      |some l'=>some (.junk,⟨ug σ.h k (.vec l' e' sz' st),σ.nx⟩)|none=>none)) none
     |none=>none)
    |.nils=>some (.junk,σ)|_=>none) none) none
   |none=>none)
  |none=>none)
 |_=>none
def Aw(T:Tb)(σ:Sg)(t:TypeId)(n:Nat)(ps:List (Nat×U)):Option (U×Sg):=
 match T.und t with
 |some (.slice e)=>(match T.inf e with
  |some (sz,_,z)=>cond (Nat.ble (n*sz) 16777216) (cond (Nat.ble n 16777216) (cond (Nat.beq z.cells.toList.length sz) (match mR z.cells.toList with
   |none=>none|some zu=>match pU (fun i=>some (i*sz,sz)) (qK zu n) ps with
    |some cs=>cond (okL cs) (some (.sl σ.nx 0 n n,cY σ (.row cs e))) none|none=>none) none) none) none
  |none=>none)
 |_=>none
def AN(es:List ME)(i:Nat)(f:ME->ME):List ME:=match es,i with
 |[],_=>[]|e::es,0=>f e::es
 |e::es,i+1=>e::AN es i f
def XS(b:Int):List ME->Nat->Option Nat
 |[],_=>none|e::es,i=>cond (decide ((e.born:Int)=b)) (some i) (XS b es (i+1))
def UH(es:List ME)(i:Nat):List ME:=match es,i with
 |[],_=>[]|_::es,0=>es
 |e::es,i+1=>e::UH es i
def GQ(σ:Sg)(r:Nat)(es:List ME)(cl:Nat):Sg:=⟨ug σ.h r (.map es cl),σ.nx⟩
def ZD(T:Tb)(σ:Sg)(t:TypeId)(m k v:U):Option (U×Sg):=
 match T.und t,m with
 |some (.map kt _),.map r=>(match toV k with
  |none=>none|some kv=>cond (lS T 50 kt kv) (cond (plain kv) (match gt σ.h r with
   |some (.map es cl)=>(match uP T kt kv es 0 with
    |none=>none|some none=>some (.junk,GQ σ r (es++[{ key:=k,val:=v,born:=cl }]) (cl+1))
    |some (some (i,_))=>match nth es i with
     |none=>none|some e=>match toV e.key with
      |none=>none|some kv'=>cond (tP 50 kv' kv) (some (.junk,GQ σ r (AN es i fun e=>{ e with val:=v }) cl)) none)
   |_=>none) none) none)
 |_,_=>none
def Vz(T:Tb)(σ:Sg)(t:TypeId)(m k:U):Option (U×Sg):=
 match T.und t,m with
 |some (.map kt et),.map r=>(match toV k with
  |none=>none|some kv=>cond (lS T 50 kt kv) (cond (plain kv) (match gt σ.h r with
   |some (.map es cl)=>(match uP T kt kv es 0 with
    |none=>none|some none=>(match T.inf et with
     |none=>none|some (_,_,z)=>match fU z with
      |none=>none|some zu=>some (.tup [zu,.int .i64 cl],GQ σ r (es++[{ key:=k,val:=zu,born:=cl }]) (cl+1)))
    |some (some (i,v))=>match nth es i with
     |none=>none|some e=>match toV e.key with
      |none=>none|some kv'=>cond (tP 50 kv' kv) (some (.tup [v,.int .i64 e.born],GQ σ r es cl)) none)
   |_=>none) none) none)
 |_,_=>none
def Uo(σ:Sg)(m st v:U):Option (U×Sg):=
 match m,st with
 |.map r,.int _ b=>(match gt σ.h r with
  |some (.map es cl)=>(match XS b es 0 with
   |none=>none|some i=>some (.junk,GQ σ r (AN es i fun e=>{ e with val:=v }) cl))
  |_=>none)
 |_,_=>none
def SS(T:Tb)(σ:Sg)(t:TypeId)(m k:U):Option (U×Sg):=
 match T.und t,m with
 |some (.map kt _),.map r=>(match toV k with
  |none=>none|some kv=>cond (lS T 50 kt kv) (match gt σ.h r with
   |some (.map es cl)=>(match uP T kt kv es 0 with
    |none=>none|some none=>some (.junk,GQ σ r es cl)
    |some (some (i,_))=>some (.junk,GQ σ r (UH es i) cl))
   |_=>none) none)
 |_,_=>none
def kL(T:Tb)(σ:Sg)(tm:List U)(op:Op):Option (U×Sg):=
 match op with
 |.alloc e=>(match T.inf e with
  |some (_,_,z)=>(match mR z.cells.toList with
   |some zu=>cond (okL zu) (some (.ptr σ.nx 0 0,cY σ (.row zu e))) none|none=>none)
  |none=>none)
 |.box e x=>(match bP tm x with
  |some u=>(match sC u with
   |some cs=>cond (okL cs) (some (.ptr σ.nx 0 0,cY σ (.row cs e))) none|none=>none)
  |none=>none)
 |.store t a x=>(match bP tm a,bP tm x with
  |some p,some v=>OQ T σ t p v|_,_=>none)
 |.buildSlice t n ps=>(match tY tm ps.toList with
  |some qs=>Aw T σ t n qs|none=>none)
 |.makeSlice t l c=>(match bP tm l,bP tm c with
  |some a,some b=>XN T σ t a b|_,_=>none)
 |.makeMap _ none=>some (.map σ.nx,cY σ (.map [] 0))|.mapUpdate t m k x=>(match bP tm m,bP tm k,bP tm x with
  |some a,some b,some v=>ZD T σ t a b v|_,_,_=>none)
 |.insert t m k x=>(match bP tm m,bP tm k,bP tm x with
  |some a,some b,some v=>ZD T σ t a b v|_,_,_=>none)
 |.mapEntry t m k=>(match bP tm m,bP tm k with
  |some a,some b=>Vz T σ t a b|_,_=>none)
 |.entryStore _ m st x=>(match bP tm m,bP tm st,bP tm x with
  |some a,some b,some v=>Uo σ a b v|_,_,_=>none)
 |.call c=>(match c.callee with
  |.builtin .append=>(match jJ tm c.args.toList,c.argTypes.toList with
   |some [a,b],[t,xt]=>Mt T σ t xt a b|_,_=>none)
  |.builtin .copy=>(match jJ tm c.args.toList,c.argTypes.toList with
   |some [a,b],t::_=>Tw T σ t a b|_,_=>none)
  |.builtin .delete=>(match jJ tm c.args.toList,c.argTypes.toList with
   |some [a,b],t::_=>SS T σ t a b|_,_=>none)
  |.builtin .clear=>(match jJ tm c.args.toList,c.argTypes.toList with
   |some [a],t::_=>Uq T σ t a|_,_=>none)
  |_=>none)
 |_=>none
def bB(T:Tb)(σ:Sg)(tm:List U)(op:Op):Option (U×Sg):=
 match eU T σ tm op with
 |some v=>some (v,σ)|none=>match kI T σ tm op with
  |some v=>some (v,σ)|none=>kL T σ tm op
def i9(T:Tb)(tm:List U)(op:Op):Option (FuncId×List U):=
 match op with
 |.call c=>(match c.callee with
  |.value f=>(match bP tm f with
   |some (.fn (.func g) first cap)=>(match T.fn g with
    |some fn=>cond fn.body.isSome (match jJ tm c.args.toList with
     |some args=>some (g,first++args++cap)|none=>none) none
    |none=>none)
   |_=>none)
  |_=>none)
 |_=>none
end Go.Vx
namespace Go.Vx
open Go Go.Rx
mutual
theorem u6:(u:U)->(v:Value)->toV u=some v->∀(x:Cx)(v':Value),aA x u v'↔v'=v
 |.bool b,v,h,x,v'=>by simp only[toV,zA]at h;subst h;simp[aA]
 |.int k n,v,h,x,v'=>by simp only[toV,zA]at h;subst h;simp[aA]
 |.str l,v,h,x,v'=>by simp only[toV,zA]at h;subst h;simp[aA]
 |.nilp,v,h,x,v'=>by simp only[toV,zA]at h;subst h;simp[aA]
 |.nils,v,h,x,v'=>by simp only[toV,zA]at h;subst h;simp[aA]
 |.nilm,v,h,x,v'=>by simp only[toV,zA]at h;subst h;simp[aA]
 |.nilf,v,h,x,v'=>by simp only[toV,zA]at h;subst h;simp[aA]
 |.nili,v,h,x,v'=>by simp only[toV,zA]at h;subst h;simp[aA]
 |.agg l,v,h,x,v'=>by simp only[toV]at h;rcases hk:okL l with _|_;simp[hk]at h;simp only[hk,zC]at h;rcases hl:dK l with _|vs;simp[hl]at h;simp only[hl,zA]at h;subst h;have:=A3 l vs hl x;simp only[aA,hk,and_true];constructor;rintro⟨ws,rfl,h1,h2⟩;rw[(this ws).1 ⟨h1,h2⟩];rintro rfl;exact⟨vs,rfl,((this vs).2 rfl).1,((this vs).2 rfl).2⟩
 |.junk,v,h,x,v'=>by simp[toV]at h
 |.ptr _ _ _,v,h,x,v'=>by simp[toV]at h
 |.iptr _,v,h,x,v'=>by simp[toV]at h
 |.sl _ _ _ _,v,h,x,v'=>by simp[toV]at h
 |.vl _ _ _ _,v,h,x,v'=>by simp[toV]at h
 |.isl _ _,v,h,x,v'=>by simp[toV]at h
 |.map _,v,h,x,v'=>by simp[toV]at h
 |.fn _ _ _,v,h,x,v'=>by simp[toV]at h
 |.tup _,v,h,x,v'=>by simp[toV]at h
theorem A3:(l:List U)->(vs:List Value)->dK l=some vs->∀(x:Cx)(ws:List Value),aX x l ws↔ws=vs
 |[],vs,h,x,ws=>by simp only[dK,zA]at h;subst h;exact⟨fun h=>h.nil_inv,fun h=>h ▸ aX.nil x⟩
 |u::l,vs,h,x,ws=>by simp only[dK]at h;rcases hu:toV u with _|v;simp[hu]at h;rcases hl:dK l with _|vs';simp[hu,hl]at h;simp only[hu,hl,zA]at h;subst h;constructor;intro hr;obtain⟨w,ws',rfl,h1,h2⟩:=hr.inv;rw[(u6 u v hu x w).1 h1,(A3 l vs' hl x ws').1 h2];rintro rfl;exact aX.cons ((u6 u v hu x v).2 rfl) ((A3 l vs' hl x vs').2 rfl)
end
mutual
theorem GG:(v:Value)->(u:U)->fU v=some u->plain v=true/\∀x:Cx,aA x u v
 |.bool b,u,h=>by simp only[fU,zA]at h;subst h;simp[aA,plain]
 |.int k n,u,h=>by simp only[fU,zA]at h;subst h;simp[aA,plain]
 |.string s,u,h=>by simp only[fU,zA]at h;subst h;simp[aA,plain]
 |.pointer none,u,h=>by simp only[fU,zA]at h;subst h;simp[aA,plain]
 |.slice none n c,u,h=>by simp only[fU]at h;split at h;simp only[zA]at h;subst h;simp[aA,plain];cases h
 |.map none,u,h=>by simp only[fU,zA]at h;subst h;simp[aA,plain]
 |.nilFunc,u,h=>by simp only[fU,zA]at h;subst h;simp[aA,plain]
 |.nilIface,u,h=>by simp only[fU,zA]at h;subst h;simp[aA,plain]
 |.agg ⟨l⟩,u,h=>by simp only[fU]at h;rcases hl:mR l with _|us;simp[hl]at h;simp only[hl]at h;rcases hk:okL us with _|_;simp[hk]at h;simp only[hk,zC,zA]at h;subst h;obtain⟨h1,h2⟩:=GP l us hl;exact⟨by simp[plain,h1],fun x=>by simp only[aA];exact⟨l,rfl,(h2 x).1,(h2 x).2,hk⟩⟩
 |.float _ _,u,h=>by simp[fU]at h
 |.complex _ _ _,u,h=>by simp[fU]at h
 |.pointer (some _),u,h=>by simp[fU]at h
 |.slice (some _) _ _,u,h=>by simp[fU]at h
 |.map (some _),u,h=>by simp[fU]at h
 |.chan _,u,h=>by simp[fU]at h
 |.func _ _ _,u,h=>by simp[fU]at h
 |.iface _ _,u,h=>by simp[fU]at h
 |.tuple _,u,h=>by simp[fU]at h
theorem GP:(l:List Value)->(us:List U)->mR l=some us->JR l=true/\∀x:Cx,aX x us l
 |[],us,h=>by simp only[mR,zA]at h;subst h;exact⟨by simp[JR],fun x=>aX.nil x⟩
 |v::l,us,h=>by simp only[mR]at h;rcases hv:fU v with _|u;simp[hv]at h;rcases hl:mR l with _|us';simp[hv,hl]at h;simp only[hv,hl,zA]at h;subst h;obtain⟨h1,h2⟩:=GG v u hv;obtain⟨h3,h4⟩:=GP l us' hl;exact⟨by simp[JR,h1,h3],fun x=>aX.cons (h2 x) (h4 x)⟩
end
section
variable{x:Cx}{tm:List U}{tv:List Value}(ht:aX x tm tv)
include ht
theorem gK{o:Operand}{u:U}(h:bP tm o=some u):∃v,evalO tv o=some v/\aA x u v:=by
 cases o with
 |tmp t=>simp only[bP,gG]at h;obtain⟨v,h1,h2⟩:=ht.get h;exact⟨v,by simp[evalO,gG,h1],h2⟩
 |const v=>obtain⟨h1,h2⟩:=GG v u h;exact⟨v,by simp[evalO,h1],h2 x⟩
 |func f=>simp only[bP,zA]at h;subst h;exact⟨_,rfl,by simp only[aA];exact⟨[],[],rfl,by simp[c8],rfl,by simp[c8],rfl⟩⟩|global g=>simp[bP]at h
theorem H5{l:List Operand}{us:List U}(h:jJ tm l=some us):∃vs,iH tv l=some vs/\aX x us vs:=by
 induction l generalizing us with|nil=>simp only[jJ,zA]at h;subst h;exact⟨[],rfl,aX.nil x⟩|cons o l ih=>simp only[jJ]at h;rcases h1:bP tm o with _|u;simp[h1]at h;rcases h2:jJ tm l with _|us';simp[h1,h2]at h;simp only[h1,h2,zA]at h;subst h;obtain⟨v,e1,r1⟩:=gK ht h1;obtain⟨vs,e2,r2⟩:=ih h2;exact⟨v::vs,by simp[iH,e1,e2],aX.cons r1 r2⟩
inductive OP(x:Cx):List (Nat×U)->List (Nat×Value)->Prop
 |nil:OP x [] []
 |cons {i:Nat} {u:U} {v:Value} {l:List (Nat×U)} {m:List (Nat×Value)}:aA x u v->OP x l m->OP x ((i,u)::l) ((i,v)::m)
theorem Yd{l:List (Nat×Operand)}{us:List (Nat×U)}(h:tY tm l=some us):∃vs,BE tv l=some vs/\OP x us vs:=by
 induction l generalizing us with|nil=>simp only[tY,zA]at h;subst h;exact⟨[],rfl,.nil⟩|cons o l ih=>obtain⟨i,o⟩:=o;simp only[tY]at h;rcases h1:bP tm o with _|u;simp[h1]at h;rcases h2:tY tm l with _|us';simp[h1,h2]at h;simp only[h1,h2,zA]at h;subst h;obtain⟨v,e1,r1⟩:=gK ht h1;obtain⟨vs,e2,r2⟩:=ih h2;exact⟨(i,v)::vs,by simp[BE,e1,e2],.cons r1 r2⟩
theorem Ye{o:Option Operand}{r:Option Value}(h:sA tm o=some r):nX tv o=some r:=by
 rcases o with _|o;simpa[sA,nX]using h;simp only[sA]at h;rcases h1:bP tm o with _|u;simp[h1]at h;obtain⟨v,e1,r1⟩:=gK ht h1;cases u with|int k n=>simp only[h1,zA]at h;simp only[aA]at r1;subst r1;subst h;simp[nX,e1]|_=>simp[h1]at h
end
variable{x:Cx}
variable{u:U}
variable{v:Value}
theorem LR{f:Value->Option Value}{r:U}(h:g1 f u=some r)(hr:aA x u v):∃rv,f v=some rv/\aA x r rv:=by
 unfold g1 at h;rcases h1:toV u with _|v0;simp[h1]at h;simp only[h1]at h;rcases h2:f v0 with _|rv;simp[h2]at h;simp only[h2]at h;rw[(u6 u v0 h1 x v).1 hr];exact⟨rv,h2,(GG rv r h).2 x⟩
theorem LQ{f:Value->Value->Option Value}{a b r:U}{va vb:Value}(h:g2 f a b=some r)(ha:aA x a va)(hb:aA x b vb):∃rv,f va vb=some rv/\aA x r rv:=by
 unfold g2 at h;rcases h1:toV a with _|v1;simp[h1]at h;rcases h2:toV b with _|v2;simp[h1,h2]at h;simp only[h1,h2]at h;rcases h3:f v1 v2 with _|rv;simp[h3]at h;simp only[h3]at h;rw[(u6 a v1 h1 x va).1 ha,(u6 b v2 h2 x vb).1 hb];exact⟨rv,h3,(GG rv r h).2 x⟩
theorem ep(hr:aA x u v)(hn:okC u=true):v.oneCell'=true:=by
 cases u with
 |junk=>simp[okC]at hn|agg l=>simp[okC]at hn
 |tup l=>simp[okC]at hn|ptr k st off=>simp only[aA]at hr;exact hr.1
 |sl k off n c=>simp only[aA]at hr;exact hr.1|vl k st off n=>simp only[aA]at hr;exact hr.1
 |map k=>simp only[aA]at hr;exact hr.1|iptr l=>simp only[aA]at hr;obtain⟨_,_,_,_,rfl,_⟩:=hr;rfl
 |isl t l=>simp only[aA]at hr;rcases hr with⟨_,rfl |⟨_,rfl⟩⟩|⟨_,_,_,rfl,_⟩<;>rfl
 |fn f a b=>simp only[aA]at hr;obtain⟨_,_,rfl,_⟩:=hr;rfl
 |_=>simp only[aA]at hr;subst hr;rfl
variable{l:List U}
variable{vs:List Value}
theorem K6(hr:aX x l vs)(hk:okL l=true):oM vs=true:=by
 induction l generalizing vs with|nil=>rw[hr.nil_inv];rfl|cons u l ih=>obtain⟨v,vs',rfl,h1,h2⟩:=hr.inv;simp only[okL]at hk;obtain⟨k1,k2⟩:=EU hk;simp[oM,ep h1 k1,ih h2 k2]
theorem Yf{cs:List U}(hr:aA x u v)(h:sC u=some cs):aX x cs v.cells.toList/\okL cs=true:=by
 have one:okC u=true->cs=[u]->aX x cs v.cells.toList/\okL cs=true:=fun h1 h2=>by
  subst h2;have:=ep hr h1;have e:v.cells= #[v]:=by cases v<;>first |rfl |(simp[Value.oneCell']at this)
  rw[e];exact⟨aX.cons hr (aX.nil x),by simp[okL,h1]⟩
 cases u with
 |junk=>simp[sC]at h|tup l=>simp[sC]at h
 |agg l=>simp only[sC,zA]at h;subst h;simp only[aA]at hr;obtain⟨vs,rfl,h1,h2,h3⟩:=hr;exact⟨⟨h1,h2⟩,h3⟩
 |_=>simp only[sC,zA]at h;exact one rfl h.symm
theorem zbh(h:aA x u v):aA x (XY u) v:=by
 cases u with
 |nils=>simp only[XY,aA]at*;exact .inl ⟨trivial,.inl h⟩|isl t l=>simp only[XY,aA]at*;rcases h with h |⟨i,off,c,h1,h2,h3⟩;exact .inl h;exact .inr ⟨i,off,c,h1,(fun h=>by cases h),h3⟩
 |_=>exact h
theorem NB(u:U):okC (XY u)=okC u:=by cases u<;>rfl
theorem Ls:∀l:List U,(nU l).length=l.length
 |[]=>rfl|u::l=>by simp[nU,Ls l]
theorem U7:∀l:List U,okL (nU l)=okL l
 |[]=>rfl|u::l=>by simp[nU,okL,NB,U7 l]
theorem sr{x:Cx}:∀{l:List U}{vs:List Value},c8 x l vs->c8 x (nU l) vs
 |[],vs,h=>by simp[nU,c8]
 |u::l,[],h=>by simp[c8]at h
 |u::l,v::vs,h=>by simp only[nU,c8]at*;exact⟨zbh h.1,sr h.2⟩
theorem ZN(h:aX x l vs):aX x (nU l) vs:=⟨sr h.1,by rw[Ls];exact h.2⟩
theorem zbg{σ:Sg}{k:Nat}(h:aX x l vs):aX x (yT σ k l) vs:=by
 unfold yT;split;exact ZN h;exact h
theorem NC(σ:Sg)(k:Nat)(l:List U):okL (yT σ k l)=okL l:=by
 unfold yT;split;exact U7 l;rfl
structure Out(x y:Cx):Prop where
 h:iC y
 mo:Mo x.σ.nx x y
 fr:∀F,Fr F x->Fr F y
def nc:yY:=fun _ _ _=>none
def o7(T:Tb)(x:Cx)(tv:List Value)(op:Op)(u:U)(σ':Sg):Prop:=∃v y,uA T nc tv x.s op=some (v,y.s)/\y.σ=σ'/\aA y u v/\Out x y
theorem Mo.refl(n:Nat)(x:Cx):Mo n x x:=⟨fun k _ h2=>⟨h2,fun b hb=>⟨b,hb,zF _,fun _=>⟨rfl,fun l e sz st h=>⟨l,h⟩⟩⟩⟩,fun _ _ _ h=>h⟩
theorem Out.refl{x:Cx}(h:iC x):Out x x:=⟨h,Mo.refl _ _,fun _ h=>h⟩
variable{T:Tb}
variable{tv:List Value}
variable{op:Op}
theorem o7.same(hx:iC x)(h:uA T nc tv x.s op=some (v,x.s))(hr:aA x u v):o7 T x tv op u x.σ:=⟨v,x,h,rfl,hr,Out.refl hx⟩
variable{call:yY}
variable{s:S}
theorem z7d(h:gA T tv op=some v):uA T call tv s op=some (v,s):=by simp[uA,h]
theorem Ad(h0:gA T tv op=none)(h:kP T tv s op=some v):uA T call tv s op=some (v,s):=by simp[uA,h,h0]
theorem gg{r:Value×S}(h0:gA T tv op=none)(h1:kP T tv s op=none)(h:oZ T tv s op=some r):uA T call tv s op=some r:=by simp[uA,h,h0,h1]
def bump(x:Cx):Cx:=⟨x.ρ,x.σ,⟨x.s.h,x.s.nx+1⟩⟩
theorem We(n:Nat)(x:Cx):Mo n x (bump x):=⟨fun k _ h2=>⟨h2,fun b hb=>⟨b,hb,zF _,fun _=>⟨rfl,fun l e sz st h=>⟨l,h⟩⟩⟩⟩,fun _ _ _ h=>h⟩
theorem Xi(h:aA x u v):aA (bump x) u v:=(We x.σ.nx x).ke u v (aA.bel u v h) h
theorem MT(h:aX x l vs):aX (bump x) l vs:=(We x.σ.nx x).ke.E h.bel h
theorem z69(h:iC x):Out x (bump x):=by
 refine⟨⟨fun k b hb=>?_,h.inj,fun i b hb=>Nat.lt_succ_of_lt (h.bd i b hb)⟩,We _ _,fun F J=>J⟩;obtain⟨h1,h2⟩:=h.ok k b hb;refine⟨h1,?_⟩;cases b with
 |row l e=>obtain⟨k1,i,l',e1,e2,e3⟩:=h2;exact⟨k1,i,l',e1,e2,MT e3⟩
 |vec l e sz st=>obtain⟨k1,k2,h3⟩:=h2;refine⟨k1,k2,?_⟩;rcases h3 with h3 |⟨i,l',e1,e2,e3⟩;exact .inl h3;exact .inr ⟨i,l',e1,e2,MT e3⟩
 |map es cl=>obtain⟨i,es',e1,e2,e3⟩:=h2;refine⟨i,es',e1,e2,e3.1,fun j e he=>?_⟩;obtain⟨v,q1,q2,q3,q4⟩:=e3.2 j e he;exact⟨v,q1,Xi q2,Xi q3,q4⟩
end Go.Vx
namespace Go.Vx
open Go Go.Rx
variable{l:List Value}
variable{n:Nat}
theorem z82(h:n<=l.length):BA l n=some (l.take n):=by
 induction l generalizing n with
 |nil=>simp at h;subst h;simp[BA]|cons a l ih=>cases n with
  |zero=>simp[BA]|succ n=>simp[BA,ih (by simpa using h)]
variable{off:Nat}
theorem ZB(h:off+n<=l.length):rP l off n=some ((l.drop off).take n):=z82 (by simp;omega)
variable{vs:List Value}
theorem zay(h:vs.length<=l.length):yJ l vs=some (vs++l.drop vs.length):=by
 induction vs generalizing l with
 |nil=>simp[yJ]|cons v vs ih=>cases l with
  |nil=>simp at h|cons a l=>simp[yJ,ih (by simpa using h)]
theorem zaz(h:off+vs.length<=l.length):oY l off vs=some (l.take off++(vs++l.drop (off+vs.length))):=by
 induction l generalizing off with
 |nil=>simp at h;obtain⟨rfl,rfl⟩:=h;simp[oY,yJ]
 |cons a l ih=>cases off with
  |zero=>simp only[oY,Nat.zero_add]at*;rw[zay h];simp|succ off=>simp[oY,ih (off:=off) (by simp at h;omega),Nat.succ_add]
variable{l:List U}
theorem GW(h:okL l=true)(n:Nat):okL (l.take n)=true:=(GO _).2 fun u hu=>(GO l).1 h u (List.mem_of_mem_take hu)
theorem A4(h:okL l=true)(n:Nat):okL (l.drop n)=true:=(GO _).2 fun u hu=>(GO l).1 h u (List.mem_of_mem_drop hu)
theorem BZ{a b:List U}(h:okL a=true)(h':okL b=true):okL (a++b)=true:=(GO _).2 fun u hu=>(yD.1 hu).elim ((GO a).1 h u) ((GO b).1 h' u)
variable{r:List U}
theorem K3(h:iO l off n=some r):off+n<=l.length/\r=(l.drop off).take n:=by
 unfold iO at h;split at h;simp at h;exact⟨by assumption,h.symm⟩;cases h
theorem eo{vs:List U}(h:mQ l off vs=some r):off+vs.length<=l.length/\r=l.take off++(vs++l.drop (off+vs.length)):=by
 unfold mQ at h;split at h;simp at h;exact⟨by assumption,h.symm⟩;cases h
variable{x:Cx}
theorem Lw{vs:List U}{lv vv:List Value}(h:mQ l off vs=some r)(hl:aX x l lv)(hv:aX x vs vv):∃rv,oY lv off vv=some rv/\aX x r rv/\(okL l=true->okL vs=true->okL r=true):=by
 obtain⟨h1,rfl⟩:=eo h;refine⟨_,zaz (by rw[<-hl.2,<-hv.2];exact h1),?_,fun a b=>BZ (GW a _) (BZ b (A4 a _))⟩;rw[<-hv.2];exact(hl.take _).append (hv.append (hl.drop _))
theorem yx{lv:List Value}(h:iO l off n=some r)(hl:aX x l lv):rP lv off n=some ((lv.drop off).take n)/\aX x r ((lv.drop off).take n):=by
 obtain⟨h1,rfl⟩:=K3 h;exact⟨ZB (by rw[<-hl.2];exact h1),(hl.drop _).take _⟩
theorem Ak{x:Cx}{place:Nat->Option (Nat×Nat)}:∀{ps:List (Nat×U)}{pv:List (Nat×Value)}{cells r:List U}{cv:List Value},OP x ps pv->aX x cells cv->pU place cells ps=some r->∃rv,xB place cv pv=some rv/\aX x r rv
 |_,_,cells,r,cv,.nil,hc,h=>by simp only[pU,zA]at h;subst h;exact⟨cv,rfl,hc⟩
 |_,_,cells,r,cv,.cons (i:=i) (u:=u) (v:=v) (l:=l) (m:=m) hu hp,hc,h=>by simp only[pU]at h;rcases h1:place i with _|q;simp[h1]at h;obtain⟨off,size⟩:=q;simp only[h1]at h;rcases h2:sC u with _|cs;simp[h2]at h;simp only[h2]at h;obtain⟨c1,c2⟩:=Yf hu h2;rcases h3:Nat.beq cs.length size with _|_;simp[h3]at h;simp only[h3,zC]at h;rcases h4:mQ cells off cs with _|c;simp[h4]at h;simp only[h4]at h;obtain⟨rv,q1,q2,_⟩:=Lw h4 hc c1;obtain⟨rv',q3,q4⟩:=Ak hp q2 h;exact⟨rv',by simp only[xB,h1];rw[<-c1.2,h3];simp only[zC,q1,q3],q4⟩
variable{T:Tb}
variable{t:TypeId}
variable{u:U}
theorem pz{cs:List U}(h:Kh T t cs off=some u)(hc:aX x cs vs)(hk:okL cs=true):∃v,yW T t vs off=some v/\aA x u v:=by
 unfold Kh at h;unfold yW;rcases hd:T.und t with _|d;simp[hd]at h;simp only[hd]at h ⊢;cases ha:nZ d with
 |true=>simp only[ha,zC]at h ⊢;rcases hs:bZ T t with _|n;simp[hs]at h;simp only[hs,zA]at h ⊢;subst h;refine⟨_,rfl,?_⟩;simp only[aA];exact⟨_,rfl,((hc.drop off).take n).1,((hc.drop off).take n).2,GW (A4 hk _) _⟩
 |false=>simp only[ha,zD,gG]at h ⊢;exact hc.get h
theorem z1d{ps:List (Nat×U)}{pv:List (Nat×Value)}(h:UJ T t ps=some u)(hp:OP x ps pv):∃v,ZJ T t pv=some v/\aA x u v:=by
 unfold UJ at h;unfold ZJ;rcases hi:T.inf t with _|q;simp[hi]at h;obtain⟨a,b,z⟩:=q;simp only[hi]at h ⊢;rcases hz:mR z.cells.toList with _|zu;simp[hz]at h;simp only[hz]at h;have hzr:=(GP _ _ hz).2 x;rcases hd:T.und t with _|d;simp[hd]at h;cases d with
 |struct fs=>simp only[hd]at h ⊢;rcases hs:BM T fs.toList with _|_;simp[hs]at h;simp only[hs,zC]at h ⊢;rcases hf:pU (EM T fs.toList) zu ps with _|cs;simp[hf]at h;simp only[hf]at h;rcases hk:okL cs with _|_;simp[hk]at h;simp only[hk,zC,zA]at h;subst h;obtain⟨rv,q1,q2⟩:=Ak hp hzr hf;exact⟨.agg rv.toArray,by simp[q1],by simp only[aA];exact⟨rv,rfl,q2.1,q2.2,hk⟩⟩
 |array n e=>simp only[hd]at h ⊢;rcases hs:bZ T e with _|sz;simp[hs]at h;simp only[hs]at h ⊢;rcases hf:pU (fun i=>some (i*sz,sz)) zu ps with _|cs;simp[hf]at h;simp only[hf]at h;rcases hk:okL cs with _|_;simp[hk]at h;simp only[hk,zC,zA]at h;subst h;obtain⟨rv,q1,q2⟩:=Ak hp hzr hf;exact⟨.agg rv.toArray,by simp[q1],by simp only[aA];exact⟨rv,rfl,q2.1,q2.2,hk⟩⟩
 |_=>simp[hd]at h
variable{σ:Sg}
variable{k:Nat}
theorem Ax{st:Nat}(h:bH σ k st=true):∃b,gt σ.h k=some b/\b.st=st:=by
 unfold bH at h;rcases hb:gt σ.h k with _|b;simp[hb]at h;simp only[hb,beq_eq,decide_eq_true_eq]at h;exact⟨b,rfl,h⟩
variable{v:Value}
theorem PD{st:Nat}(hl:bH x.σ k st=true)(hr:aA x (.ptr k st off) v):∃i,x.ρ k=some i/\v=.pointer (some ⟨i,off,none⟩):=by
 obtain⟨b,h1,h2⟩:=Ax hl;simp only[aA]at hr;exact((hr.2.2 b h1).2 h2.symm)
theorem GR{c:Nat}(hl:bH x.σ k 0=true)(hr:aA x (.sl k off n c) v):∃i,x.ρ k=some i/\v=.slice (some ⟨i,off,none⟩) n c/\c<bL/\n<=c:=by
 obtain⟨b,h1,h2⟩:=Ax hl;simp only[aA]at hr;exact((hr.2.2 b h1).2 h2.symm)
theorem Mn(hl:bH x.σ k 0=true)(hr:aA x (.map k) v):∃i,x.ρ k=some i/\v=.map (some i):=by
 obtain⟨b,h1,h2⟩:=Ax hl;simp only[aA]at hr;exact((hr.2.2 b h1).2 h2.symm)
theorem P7{st:Nat}(hl:bH x.σ k st=true)(hr:aA x (.vl k st off n) v):∃l e sz,gt x.σ.h k=some (.vec l e sz st)/\DZ off n v sz (x.ρ k):=by
 obtain⟨b,h1,h2⟩:=Ax hl;simp only[aA]at hr;obtain⟨l,e,sz,rfl,h3⟩:=(hr.2.2 b h1).2 h2.symm;exact⟨l,e,sz,h1,h3⟩
theorem Nd{st:Nat}{r:List U×TypeId×Nat}(h:rD σ k st=some r):gt σ.h k=some (.vec r.1 r.2.1 r.2.2 st)/\bH σ k st=true:=by
 unfold rD at h;rcases hb:gt σ.h k with _|b;simp[hb]at h;cases b with
 |vec l e sz st'=>simp only[hb,beq_eq]at h;by_cases hst:st'=st;subst hst;simp at h;subst h;exact⟨rfl,by simp[bH,hb,B.st]⟩;simp[hst]at h|_=>simp[hb]at h
theorem Yl(h:rowOf σ k=some l):∃e,gt σ.h k=some (.row l e)/\bH σ k 0=true:=by
 unfold rowOf at h;rcases hb:gt σ.h k with _|b;simp[hb]at h;cases b with
 |row l' e=>simp[hb]at h;subst h;exact⟨e,rfl,by simp[bH,hb,B.st]⟩|_=>simp[hb]at h
theorem Ty{sz:Nat}{o:Option Nat}(h:DZ off n v sz o):∃a c,v=.slice a n c:=by
 cases o with
 |none=>obtain⟨_,rfl,o,rfl,_⟩:=h;exact⟨o,0,rfl⟩
 |some i=>rcases h with⟨_,rfl,a,c,rfl,_⟩|rfl<;>exact⟨_,_,rfl⟩
theorem Wj(hx:iC x){st:Nat}(hl:bH x.σ k st=true)(hr:aA x (.vl k st off n) v)(hn:0<n):
  ∃i l e sz l',gt x.σ.h k=some (.vec l e sz st)/\x.ρ k=some i/\v=.slice (some ⟨i,off*sz,none⟩) n (bL+off)/\lk x.s.h i=some (.inl (l',e,sz+2))/\aX x l l'/\0<sz/\okL l=true:=by
 obtain⟨l,e,sz,h1,h2⟩:=P7 hl hr;obtain⟨_,k1,k2,h3⟩:=hx.ok k _ h1;rcases h3 with⟨_,h3⟩|⟨i,l',e1,e2,e3⟩;rw[h3]at h2;obtain⟨_,rfl,_⟩:=h2;omega;rw[e1]at h2;rcases h2 with⟨_,rfl,_⟩|h2;omega;exact⟨i,l,e,sz,l',h1,e1,h2,e2,e3,k2,k1⟩
theorem pa(hx:iC x)(hr:aA x u v)(h:dG x.σ u=k)(hk:k≠0):
  (k=1/\∃a,v=.pointer (some a))\/(k=2/\∃a n c,v=.slice (some a) n c)\/(k=3/\∃r,v=.map (some r)):=by
 cases u with
 |ptr k' st off=>simp only[dG]at h;rcases hl:bH x.σ k' st with _|_;simp[hl]at h;omega;simp[hl]at h;obtain⟨i,_,rfl⟩:=PD hl hr;exact .inl ⟨h.symm,_,rfl⟩
 |iptr l=>simp only[dG]at h;simp only[aA]at hr;obtain⟨i,off,_,_,rfl,_⟩:=hr;exact .inl ⟨h.symm,_,rfl⟩
 |sl k' off n c=>simp only[dG]at h;rcases hl:bH x.σ k' 0 with _|_;simp[hl]at h;omega;simp[hl]at h;obtain⟨i,_,rfl,_⟩:=GR hl hr;exact .inr (.inl ⟨h.symm,_,_,_,rfl⟩)
 |vl k' st off n=>cases n with|zero=>simp[dG]at h;omega|succ n=>simp only[dG]at h;rcases hl:bH x.σ k' st with _|_;simp[hl]at h;omega;simp[hl]at h;obtain⟨i,l,e,sz,l',_,_,rfl,_⟩:=Wj hx hl hr (Nat.succ_pos _);exact .inr (.inl ⟨h.symm,_,_,_,rfl⟩)
 |isl t l=>rcases l with _|⟨c,l⟩;simp[dG]at h;omega;simp only[dG]at h;simp only[aA]at hr;rcases hr with⟨hr,_⟩|⟨i,off,c',rfl,_⟩;cases hr;exact .inr (.inl ⟨h.symm,_,_,_,rfl⟩)
 |map k'=>simp only[dG]at h;rcases hl:bH x.σ k' 0 with _|_;simp[hl]at h;omega;simp[hl]at h;obtain⟨i,_,rfl⟩:=Mn hl hr;exact .inr (.inr ⟨h.symm,_,rfl⟩)
 |_=>simp[dG]at h;omega
theorem S'(hr:aA x u v)(h:xF u=k)(hk:k≠0):(k=1/\v=.pointer none)\/(k=2/\v=.slice none 0 0)\/(k=3/\v=.map none):=by
 cases u with
 |nilp=>simp only[xF]at h;simp only[aA]at hr;exact .inl ⟨h.symm,hr⟩|nils=>simp only[xF]at h;simp only[aA]at hr;exact .inr (.inl ⟨h.symm,hr⟩)
 |nilm=>simp only[xF]at h;simp only[aA]at hr;exact .inr (.inr ⟨h.symm,hr⟩)|_=>simp[xF]at h;omega
theorem z3i(hx:iC x){op:BinOp}{a b:U}{va vb:Value}(h:GH T x.σ op t a b=some u)(ha:aA x a va)(hb:aA x b vb):∃v,mT T op t va vb=some v/\aA x u v:=by
 unfold GH at h;simp only[beq_eq]at h;by_cases h0:pB T t=0;simp[h0]at h;simp only[h0,yB,zD]at h;have key:N5 op=some u->
   (pB T t=1/\((∃p,va=.pointer (some p))/\vb=.pointer none\/va=.pointer none/\∃p,vb=.pointer (some p)))\/
   (pB T t=2/\((∃p n c,va=.slice (some p) n c)/\vb=.slice none 0 0\/va=.slice none 0 0/\∃p n c,vb=.slice (some p) n c))\/
   (pB T t=3/\((∃p,va=.map (some p))/\vb=.map none\/va=.map none/\∃p,vb=.map (some p)))->∃v,mT T op t va vb=some v/\aA x u v:=by
  intro hop hk;have hund:∀{k:Nat},pB T t=k->k≠0->(k=1->∃e,T.und t=some (.pointer e))/\(k=2->∃e,T.und t=some (.slice e))/\(k=3->∃e e',T.und t=some (.map e e')):=by intro k hk I6;unfold pB at hk;rcases hd:T.und t with _|d;simp[hd]at hk;omega;cases d<;>simp[hd]at hk<;>subst hk<;>simp at I6 ⊢
  rcases hk with⟨hk,hv⟩|⟨hk,hv⟩|⟨hk,hv⟩;obtain⟨e,he⟩:=(hund hk (by omega)).1 rfl;rcases hv with⟨⟨p,rfl⟩,rfl⟩|⟨rfl,p,rfl⟩<;>cases op<;>simp[N5]at hop<;>subst hop<;>simp[mT,rF,eqv,he,aA];obtain⟨e,he⟩:=(hund hk (by omega)).2.1 rfl;rcases hv with⟨⟨p,n,c,rfl⟩,rfl⟩|⟨rfl,p,n,c,rfl⟩<;>cases op<;>simp[N5]at hop<;>subst hop<;>simp[mT,rF,eqv,he,aA];obtain⟨e,e',he⟩:=(hund hk (by omega)).2.2 rfl;rcases hv with⟨⟨p,rfl⟩,rfl⟩|⟨rfl,p,rfl⟩<;>cases op<;>simp[N5]at hop<;>subst hop<;>simp[mT,rF,eqv,he,aA]
 by_cases h1:dG x.σ a=pB T t;by_cases h2:xF b=pB T t;simp only[h1,h2,yC,zC]at h;refine key h ?_;rcases pa hx ha h1 h0 with⟨e1,q⟩|⟨e1,q⟩|⟨e1,q⟩<;>rcases S' hb h2 h0 with⟨e2,q'⟩|⟨e2,q'⟩|⟨e2,q'⟩<;>first |omega |skip
 exact .inl ⟨e1,.inl ⟨q,q'⟩⟩;exact .inr (.inl ⟨e1,.inl ⟨q,q'⟩⟩);exact .inr (.inr ⟨e1,.inl ⟨q,q'⟩⟩);simp[h1,h2]at h;simp only[h1,yB,zD]at h;by_cases h2:xF a=pB T t;by_cases h3:dG x.σ b=pB T t;simp only[h2,h3,yC,zC]at h;refine key h ?_;rcases pa hx hb h3 h0 with⟨e1,q⟩|⟨e1,q⟩|⟨e1,q⟩<;>rcases S' ha h2 h0 with⟨e2,q'⟩|⟨e2,q'⟩|⟨e2,q'⟩<;>first |omega |skip
 exact .inl ⟨e1,.inr ⟨q',q⟩⟩;exact .inr (.inl ⟨e1,.inr ⟨q',q⟩⟩);exact .inr (.inr ⟨e1,.inr ⟨q',q⟩⟩);simp[h2,h3]at h;simp[h2]at h
theorem z9s(hx:iC x){op:BinOp}{a b:U}{va vb:Value}(h:IU T x.σ op t a b=some u)(ha:aA x a va)(hb:aA x b vb):∃v,mT T op t va vb=some v/\aA x u v:=by
 unfold IU at h;rcases h1:g2 (mT T op t) a b with _|r;simp only[h1]at h;exact z3i hx h ha hb;simp only[h1,zA]at h;subst h;exact LQ h1 ha hb
variable{v:Value}
variable{n:Nat}
theorem xJ{y y':Nat}(h:gZ v y=some n)(hy:y<=y'):gZ v y'=some n/\n<=y:=by
 unfold gZ at*;cases v with
 |int k i=>
  simp only at*;rcases h1:o4 i (y+1)with _|_;simp[h1]at h;simp only[h1,zC,zA]at h;obtain⟨a,b⟩:=PE h1;have:o4 i (y'+1)=true:=by
   unfold o4;cases i with
   |ofNat k=>simp at b ⊢;omega|negSucc k=>omega
  exact⟨by simp[this,h],by omega⟩
 |_=>simp at h
variable{c:Nat}
variable{lo:Option Value}
variable{hi:Option Value}
variable{l:Nat}
variable{h:Nat}
variable{m:Nat}
theorem K0(hb:fF n n lo hi none=some (l,h,m))(hc:n<=c):fF n c lo hi none=some (l,h,c)/\l<=h/\h<=n/\m=n:=by
 unfold fF at*;simp only at*;cases hi with
 |none=>
  simp only at*;cases lo with
  |none=>simp only[zA,zB]at hb ⊢;obtain⟨rfl,rfl,rfl⟩:=hb;simp
  |some v=>simp only at*;rcases h1:gZ v n with _|k;simp[h1]at hb;simp only[h1,zA,zB]at hb ⊢;obtain⟨rfl,rfl,rfl⟩:=hb;simp[(xJ h1 (zF _)).2]
 |some w=>
  simp only at*;rcases h2:gZ w n with _|k2;simp[h2]at hb;obtain⟨e2,e3⟩:=xJ h2 hc;simp only[h2,e2]at hb ⊢;cases lo with
  |none=>simp only[zA,zB]at hb ⊢;obtain⟨rfl,rfl,rfl⟩:=hb;simp[e3]
  |some v=>simp only at*;rcases h1:gZ v k2 with _|k;simp[h1]at hb;simp only[h1,zA,zB]at hb ⊢;obtain⟨rfl,rfl,rfl⟩:=hb;simp[(xJ h1 (zF _)).2,e3]
theorem Ao{vm:Value}(hb:fF n n lo hi (some vm)=some (l,h,m)):gZ vm n=some m/\l<=h/\h<=m/\m<=n/\∀c,m<=c->fF n c lo hi (some vm)=some (l,h,m):=by
 unfold fF at*;simp only at*;rcases h0:gZ vm n with _|k0;simp[h0]at hb;simp only[h0]at hb;have e0:=(xJ h0 (zF _)).2;have grow:∀c,k0<=c->gZ vm c=some k0:=fun c hc=>by
  unfold gZ at*;cases vm with
  |int k i=>
   simp only at*;rcases h1:o4 i (n+1)with _|_;simp[h1]at h0;simp only[h1,zC,zA]at h0;obtain⟨a,b⟩:=PE h1;have:o4 i (c+1)=true:=by
    unfold o4;cases i with
    |ofNat k=>simp at h0 ⊢;omega|negSucc k=>omega
   simp[this,h0]
  |_=>simp at h0
 rcases hi with _|w;simp at hb;simp only at*;rcases h2:gZ w k0 with _|k2;simp[h2]at hb;have e3:=(xJ h2 (zF _)).2;simp only[h2]at hb;cases lo with
 |none=>simp only[zA,zB]at hb;obtain⟨rfl,rfl,rfl⟩:=hb;exact⟨rfl,by omega,e3,e0,fun c hc=>by simp[grow c hc,h2]⟩
 |some v=>simp only at*;rcases h1:gZ v k2 with _|k;simp[h1]at hb;simp only[h1,zA,zB]at hb;obtain⟨rfl,rfl,rfl⟩:=hb;exact⟨rfl,(xJ h1 (zF _)).2,e3,e0,fun c hc=>by simp[grow c hc,h2,h1]⟩
variable{mx:Option Value}
theorem z66(hb:fF n c lo hi mx=some (l,h,m)):l<=h/\m<=c:=by
 unfold fF at hb;cases mx with
 |none=>
  simp only at hb;cases hi with
  |none=>simp only at hb;rcases lo with _|v;simp only[zA,zB]at hb;omega;simp only at hb;rcases h1:gZ v n with _|k;simp[h1]at hb;simp only[h1,zA,zB]at hb;have:=(xJ h1 (zF _)).2;omega
  |some w=>simp only at hb;rcases h2:gZ w c with _|k2;simp[h2]at hb;simp only[h2]at hb;rcases lo with _|v;simp only[zA,zB]at hb;omega;simp only at hb;rcases h1:gZ v k2 with _|k;simp[h1]at hb;simp only[h1,zA,zB]at hb;have:=(xJ h1 (zF _)).2;omega
 |some vm=>simp only at hb;rcases h0:gZ vm c with _|k0;simp[h0]at hb;have e0:=(xJ h0 (zF _)).2;simp only[h0]at hb;rcases hi with _|w;simp at hb;simp only at hb;rcases h2:gZ w k0 with _|k2;simp[h2]at hb;simp only[h2]at hb;rcases lo with _|v;simp only[zA,zB]at hb;omega;simp only at hb;rcases h1:gZ v k2 with _|k;simp[h1]at hb;simp only[h1,zA,zB]at hb;have:=(xJ h1 (zF _)).2;omega
theorem z67(hb:fF n c lo hi mx=some (l,h,m))(hn:n<=c):h<=m:=by
 unfold fF at hb;cases mx with
 |none=>
  simp only at hb;cases hi with
  |none=>simp only at hb;rcases lo with _|v;simp only[zA,zB]at hb;omega;simp only at hb;rcases h1:gZ v n with _|k;simp[h1]at hb;simp only[h1,zA,zB]at hb;omega
  |some w=>simp only at hb;rcases h2:gZ w c with _|k2;simp[h2]at hb;have:=(xJ h2 (zF _)).2;simp only[h2]at hb;rcases lo with _|v;simp only[zA,zB]at hb;omega;simp only at hb;rcases h1:gZ v k2 with _|k;simp[h1]at hb;simp only[h1,zA,zB]at hb;omega
 |some vm=>simp only at hb;rcases h0:gZ vm c with _|k0;simp[h0]at hb;simp only[h0]at hb;rcases hi with _|w;simp at hb;simp only at hb;rcases h2:gZ w k0 with _|k2;simp[h2]at hb;have:=(xJ h2 (zF _)).2;simp only[h2]at hb;rcases lo with _|v;simp only[zA,zB]at hb;omega;simp only at hb;rcases h1:gZ v k2 with _|k;simp[h1]at hb;simp only[h1,zA,zB]at hb;omega
theorem Ml{x:Cx}{sz:Nat}:∀{l:List (List U)}{vs:List Value},fY x sz l vs->∀(i:Nat)(c:List U),l[i]? = some c->c.length=sz/\okL c=true/\c8 x c (vs.drop (i*sz))
 |[],vs,h,i,c,hc=>by simp at hc
 |d::l,vs,h,i,c,hc=>by
  simp only[fY]at h;cases i with
  |zero=>simp at hc;subst hc;exact⟨h.1,h.2.1,by simpa using h.2.2.1⟩|succ i=>simp at hc;have:=Ml h.2.2.2 i c hc;rw[List.drop_drop]at this;rw[Nat.succ_mul,Nat.add_comm];exact this
theorem lj{x:Cx}{sz:Nat}:∀{l:List (List U)}{vs:List Value},(∀(i:Nat)(c:List U),l[i]? = some c->c.length=sz/\okL c=true/\c8 x c (vs.drop (i*sz)))->fY x sz l vs
 |[],vs,h=>by simp[fY]
 |d::l,vs,h=>by simp only[fY];have h0:=h 0 d rfl;refine⟨h0.1,h0.2.1,by simpa using h0.2.2,lj fun i c hc=>?_⟩;have:=h (i+1) c (by simpa using hc);rw[List.drop_drop];rw[Nat.succ_mul,Nat.add_comm]at this;exact this
theorem z6g{α:Type}(l:List α)(a h i:Nat):(mS l a h)[i]? = if a+i<h then l[a+i]? else none:=by
 unfold mS;rw[List.getElem?_drop,List.getElem?_take]
variable{a:Nat}
theorem bk{α:Type}{l:List α}(hh:h<=l.length):(mS l a h).length=h-a:=by simp[mS];omega
variable{x:Cx}
variable{sz:Nat}
theorem z7o{l:List (List U)}{vs:List Value}(hr:fY x sz l vs):fY x sz (mS l a h) (vs.drop (a*sz)):=by
 refine lj fun i c hc=>?_;rw[z6g]at hc;split at hc;have:=Ml hr _ _ hc;rw[List.drop_drop];rw[Nat.add_mul]at this;exact this;cases hc
theorem yg{l:List (List U)}(h:(l.all fun c=>Nat.beq c.length sz)=true):∀c∈l,c.length=sz:=fun c hc=>by
 have:=List.all_eq_true.1 h c hc;simpa[beq_eq]using this
theorem li{sz':Nat}{l:List (List U)}{vs:List Value}(hr:fY x sz l vs)(hne:l≠[])(h:(l.all fun c=>Nat.beq c.length sz')=true):sz=sz':=by
 rcases l with _|⟨c,l⟩;exact absurd rfl hne;rw[<-(Ml hr 0 c rfl).1];exact yg h c (by simp)
theorem Mk{x:Cx}{sz:Nat}:∀{l:List (List U)}{vs:List Value},fY x sz l vs->l.length*sz<=vs.length
 |[],vs,h=>by simp
 |d::l,vs,h=>by simp only[fY]at h;have h1:=c8.len h.2.2.1;have h2:=Mk h.2.2.2;rw[List.length_drop]at h2;rw[zO,Nat.succ_mul];omega
theorem ef{x:Cx}{sz:Nat}:∀{l:List (List U)}{vs:List Value},fY x sz l vs->aX x l.flatten (vs.take (l.length*sz))/\okL l.flatten=true
 |[],vs,h=>by simpa[okL]using aX.nil x
 |d::l,vs,h=>by
  have hlen:=Mk h;simp only[fY]at h;obtain⟨h1,h2,h3,h4⟩:=h;obtain⟨g1,g2⟩:=ef h4;refine⟨?_,by simpa using BZ h2 g2⟩;have e:vs.take ((d::l).length*sz)=vs.take d.length++(vs.drop sz).take (l.length*sz):=by rw[zO,Nat.succ_mul,Nat.add_comm,List.take_add,h1]
  rw[e,List.flatten_cons];exact h3.takeE.append g1
def co(T:Tb)(x:Cx)(t:TypeId)(u:U)(va:Value)(lo hi mx:Option Value):Prop :=
 (∃v,kR T t va lo hi mx=some v/\aA x u v)\/(kR T t va lo hi mx=none/\∃v,yZ T x.s t va lo hi mx=some v/\aA x u v)\/ (kR T t va lo hi mx=none/\yZ T x.s t va lo hi mx=none/\∃v,U9 T x.s t va lo hi mx=some (v,(bump x).s)/\aA (bump x) u v)
theorem lX{b:Nat}(h:a<b):Nat.blt a b=true:=Nat.ble_eq_true_of_le h
theorem A0{b:Nat}(h:¬ a<b):Nat.blt a b=false:=by
 rcases hb:Nat.blt a b with _|_;rfl;exact absurd (BW hb) h
variable{T:Tb}
variable{t:TypeId}
variable{e:TypeId}
variable{i:Nat}
variable{off:Nat}
variable{row:List Value}
theorem qpi(hd:T.und t=some (.slice e))(hs:bZ T e=some sz)(hsz:0<sz){d:Nat}(hn:0<n)(hoff:off=d*sz)(hcap:xD x.s i sz=some row)
  (hlen:off+n*sz<=row.length) (hb:fF n n lo hi none=some (l,h,m)):
  let va:=Value.slice (some ⟨i,off,none⟩) n (bL+d)
  kR T t va lo hi none=none/\(if l<h\/l=0 then yZ T x.s t va lo hi none=some (.slice (some ⟨i,(d+l)*sz,none⟩) (h-l) (bL+(d+l)))
   else yZ T x.s t va lo hi none=none/\U9 T x.s t va lo hi none=some (.slice (some ⟨x.s.nx,0,none⟩) 0 bL,(bump x).s)):=by
 have hc:Nat.blt (bL+d) bL=false:=A0 (by omega);obtain⟨n',rfl⟩:∃q,n=q+1:=⟨n-1,by omega⟩;have hcd:bE (bL+d)=d:=by simp[bE]
 have hbig:n'+1<=(row.length-off)/sz:=by rw[Nat.le_div_iff_mul_le hsz];omega
 obtain⟨b1,b2,b3,_⟩:=K0 hb hbig;have hble:Nat.ble (off+h*sz) row.length=true:=Nat.ble_eq_true_of_le (by have:h*sz<=(n'+1)*sz:=Nat.mul_le_mul_right _ b3;omega);refine⟨by simp[kR,hd,hc,emptyS],?_⟩;have hbeq:Nat.beq off (d*sz)=true:=by simp[hoff]
 have hpos:Nat.blt 0 sz=true:=lX hsz;cases l with
 |zero=>simp only[or_true,if_true];simp only[yZ,hd,hc,zD,hs,hcap,hcd,hbeq,zC,hpos,b1,hble];simp[hoff]|succ l=>
  by_cases hlt:l+1<h;simp only[hlt,true_or,if_true];simp only[yZ,hd,hc,zD,hs,hcap,hcd,hbeq,zC,hpos,b1,hble,lX hlt];simp[hoff,Nat.add_mul,Nat.add_assoc];have:¬ (l+1<h\/l+1=0):=by omega
  simp only[this,if_false];simp only[yZ,U9,hd,hc,zD,hs,hcap,hcd,hbeq,zC,hpos,b1,hble,A0 hlt];simp[bump]
theorem qsy(hd:T.und t=some (.slice e))(hs:bZ T e=some sz)(hsz:0<sz){d:Nat}(hn:0<n)(hoff:off=d*sz)(hcap:xD x.s i sz=some row)
  (hlen:off+n*sz<=row.length) {vm:Value} (hb:fF n n lo hi (some vm)=some (l,h,m)) (hm:m<bL):
  let va:=Value.slice (some ⟨i,off,none⟩) n (bL+d)
  kR T t va lo hi (some vm)=none/\yZ T x.s t va lo hi (some vm)=some (.slice (some (cond (Nat.beq m l) ⟨i,off,none⟩ ⟨i,off+l*sz,none⟩)) (h-l) (m-l)):=by
 have hc:Nat.blt (bL+d) bL=false:=A0 (by omega);obtain⟨n',rfl⟩:∃q,n=q+1:=⟨n-1,by omega⟩;have hcd:bE (bL+d)=d:=by simp[bE]
 have hbig:n'+1<=(row.length-off)/sz:=by rw[Nat.le_div_iff_mul_le hsz];omega
 obtain⟨b0,b1,b2,b3,b4⟩:=Ao hb;have Gr:=(xJ b0 hbig).1;have hble:Nat.ble (off+m*sz) row.length=true:=Nat.ble_eq_true_of_le (by have:m*sz<=(n'+1)*sz:=Nat.mul_le_mul_right _ b3;omega);refine⟨by simp[kR,hd,hc,emptyS],?_⟩;have hbeq:Nat.beq off (d*sz)=true:=by simp[hoff]
 have hpos:Nat.blt 0 sz=true:=lX hsz;simp only[yZ,hd,hc,zD,hs,hcap,hcd,hbeq,zC,hpos,Gr,hble,b4 m (zF _),lX hm]
theorem qzf{s:S}{l:List Value}(h:lk s.h i=some (.inl (l,e,sz+2))):xD s i sz=some l:=by simp[xD,h]
theorem qqf{s:S}{l:List Value}(h:lk s.h i=some (.inl (l,sz+1,1))):xD s i sz=some l:=by simp[xD,h]
variable{k:Nat}
variable{off':Nat}
theorem jt{n' c':Nat}(hr:aA x (.sl k off n c) v)(hi:x.ρ k=some i)(hc:c'<bL)(hn:n'<=c'):aA x (.sl k off' n' c') (.slice (some ⟨i,off',none⟩) n' c'):=by
 simp only[aA]at*;exact⟨rfl,hr.2.1,fun b hb=>⟨(hr.2.2 b hb).1,fun _=>⟨i,hi,rfl,hc,hn⟩⟩⟩
theorem lh{st:Nat}(hr:aA x (.ptr k st off) v)(hi:x.ρ k=some i):aA x (.ptr k st off') (.pointer (some ⟨i,off',none⟩)):=by
 simp only[aA]at*;exact⟨rfl,hr.2.1,fun b hb=>⟨(hr.2.2 b hb).1,fun _=>⟨i,hi,rfl⟩⟩⟩
theorem ZC{st n':Nat}{l:List U}{v':Value}(hr:aA x (.vl k st off n) v)(hb:gt x.σ.h k=some (.vec l e sz st))(h1:v'.oneCell'=true)(h:DZ off' n' v' sz (x.ρ k)):aA x (.vl k st off' n') v':=by
 simp only[aA]at*;refine⟨h1,hr.2.1,fun b hb'=>⟨(hr.2.2 b hb').1,fun _=>?_⟩⟩;rw[hb]at hb';cases hb';exact⟨l,e,sz,rfl,h⟩
theorem y9:Nat.blt 0 bL=true:=lX (by simp[bL])
theorem Oi(hb:fF 0 0 lo hi mx=some (l,h,m)):l=0/\h=0/\m=0:=by
 cases mx with
 |none=>obtain⟨_,b2,b3,b4⟩:=K0 hb (zF _);omega
 |some vm=>obtain⟨_,b2,b3,b4,_⟩:=Ao hb;omega
theorem P4{t:Bool}{l:List (List U)}(hg:lk x.s.h i=some (.inl (row,e,1)))(hr:fY x sz l (row.drop off))(hh:h<=l.length)(hoff:a<h->off'=off+a*sz)
  (ht:t=true->c=h-a/\c<bL) (hc:a<h->(c<bL/\h-a<=c)\/(bL<=c/\e=sz+1/\0<sz/\off'=bE c*sz)):aA x (.isl t (mS l a h)) (.slice (some ⟨i,off',none⟩) (h-a) c):=by
 have hlen:=bk (a:=a) hh;simp only[aA];refine .inr ⟨i,off',c,by rw[hlen],by rw[hlen];exact ht,?_⟩;by_cases hlt:a<h;have e1:row.drop off'=(row.drop off).drop (a*sz):=by rw[List.drop_drop,hoff hlt]
 have hcut:=z7o (a:=a) (h:=h) hr;rw[<-e1]at hcut;refine .inr ⟨row,e,sz,hg,hcut,?_⟩;rw[hlen];rcases hc hlt with hc |⟨c1,c2,c3,c4⟩;exact .inl hc;refine .inr ⟨c1,c2,c3,c4,?_⟩;have:=Mk hcut;rw[hlen,List.length_drop]at this;have hpos:0<(h-a)*sz:=Nat.mul_pos (by omega) c3;omega;exact .inl (List.eq_nil_of_length_eq_zero (by rw[hlen];omega))
theorem z4t(hd:T.und t=some (.slice e))(hs:bZ T e=some sz){tt:Bool}{l:List (List U)}{u:U}{va:Value}(hall:(l.all fun c=>Nat.beq c.length sz)=true)
  (hb:fF l.length l.length lo hi mx=some (a,h,m)) (hu:match mx with
   |some _=>m<bL/\u=.isl (Nat.beq m h) (mS l a h)|none=>u=.isl (cond tt (Nat.beq h l.length) false) (mS l a h)) (ha:aA x (.isl tt l) va):co T x t u va lo hi mx:=by
 simp only[aA]at ha;rcases ha with⟨rfl,rfl |⟨r,rfl⟩⟩|⟨i,off,c,rfl,ht,hrow⟩;obtain⟨rfl,rfl,rfl⟩:=Oi hb;refine .inl ⟨.slice none 0 0,by simp only[zS]at hb;simp[kR,hd,hb,hs,y9],?_⟩;rcases mx with _|vm;simp only at hu;subst hu;simp[aA,mS];simp only at hu;rw[hu.2];simp[aA,mS];obtain⟨rfl,rfl,rfl⟩:=Oi hb;refine .inl ⟨.chan (some r),by simp only[zS]at hb;simp[kR,hd,hb,hs],?_⟩;rcases mx with _|vm;simp only at hu;subst hu;simp[aA,mS];simp only at hu;rw[hu.2];simp[aA,mS];by_cases hne:l=[];subst hne;obtain⟨rfl,rfl,rfl⟩:=Oi hb;simp only[zS]at hb ht;have fin:∀(t':Bool)(off' c':Nat),(t'=true->c'=0)->aA x (.isl t' (mS [] 0 0)) (.slice (some ⟨i,off',none⟩) 0 c'):=fun t' off' c' h1=>by simp only[aA];exact .inr ⟨i,off',c',by simp[mS],fun h=>by rw[h1 h];simp[mS,bL],.inl (by simp[mS])⟩
 by_cases hc:c<bL;cases mx with
 |none=>
  simp only[zS]at hu;subst hu;obtain⟨b1,_⟩:=K0 hb (Nat.zero_le c);have ht':(cond tt (Nat.beq 0 0) false=true)->c=0:=fun h=>(ht (by cases tt<;>simp_all)).1;cases hml:Nat.beq c 0 with
  |true=>exact .inl ⟨_,by simp only[zS,kR,hd,lX hc,zC,b1,hs,hml]<;>rfl,fin _ off c ht'⟩|false=>exact .inl ⟨_,by simp only[zS,kR,hd,lX hc,zC,zD,b1,hs,hml]<;>rfl,fin _ _ c ht'⟩
 |some vm=>simp only at hu;obtain⟨_,_,_,_,b4⟩:=Ao hb;rw[hu.2];exact .inl ⟨_,by simp only[zS,kR,hd,lX hc,zC,b4 c (Nat.zero_le _),hs]<;>rfl,fin _ off 0 (fun _=>rfl)⟩
 cases mx with|none=>simp only[zS]at hu;subst hu;exact .inl ⟨_,by simp only[zS,kR,hd,A0 hc,zD,emptyS,hb,hs]<;>rfl,fin _ off c (fun h=>absurd (ht (by cases tt<;>simp_all)).2 hc)⟩|some vm=>simp only at hu;rw[hu.2];exact .inl ⟨_,by simp only[zS,kR,hd,A0 hc,zD,emptyS,hb,hs]<;>rfl,fin _ off 0 (fun _=>rfl)⟩
 rcases hrow with hrow |⟨row,e',sz',g1,g2,g3⟩;exact absurd hrow hne;have hsz:=li g2 hne hall;subst hsz;have hpos:0<l.length:=by cases l<;>simp_all
 rcases g3 with⟨hc,hlc⟩|⟨hc,he,hz,hoff,hlen⟩;cases mx with
 |none=>
  simp only at hu;subst hu;obtain⟨b1,b2,b3,b4⟩:=K0 hb hlc;have ht':(cond tt (Nat.beq h l.length) false=true)->c-a=h-a/\c-a<bL:=fun hh=>by rcases tt with _|_;simp at hh;simp at hh;have:=(ht rfl).1;omega
  cases hml:Nat.beq c a with
  |true=>
   have:c=a:=by simpa[beq_eq]using hml
   exact .inl ⟨_,by simp only[kR,hd,lX hc,zC,b1,hs,hml]<;>rfl,P4 g1 g2 b3 (fun h1=>by omega) ht' (fun h1=>by omega)⟩
  |false=>exact .inl ⟨_,by simp only[kR,hd,lX hc,zC,zD,b1,hs,hml]<;>rfl,P4 g1 g2 b3 (fun h1=>rfl) ht' (fun h1=>.inl (by omega))⟩
 |some vm=>
  simp only at hu;rw[hu.2];obtain⟨b0,b1,b2,b3,b4⟩:=Ao hb;have ht':Nat.beq m h=true->m-a=h-a/\m-a<bL:=fun hh=>by simp at hh;omega
  cases hml:Nat.beq m a with
  |true=>
   have:m=a:=by simpa[beq_eq]using hml
   exact .inl ⟨_,by simp only[kR,hd,lX hc,zC,b4 c (by omega),hs,hml]<;>rfl,P4 g1 g2 (by omega) (fun h1=>by omega) ht' (fun h1=>by omega)⟩
  |false=>exact .inl ⟨_,by simp only[kR,hd,lX hc,zC,zD,b4 c (by omega),hs,hml]<;>rfl,P4 g1 g2 (by omega) (fun h1=>rfl) ht' (fun h1=>.inl (by omega))⟩
 obtain⟨d,rfl⟩:∃d,c=bL+d:=⟨c-bL,by omega⟩;have hcd:bE (bL+d)=d:=by simp[bE]
 rw[hcd]at hoff;subst he;have htt:tt=false:=by rcases tt with _|_;rfl;exact absurd (ht rfl).2 (by omega)
 subst htt;cases mx with
 |none=>simp only[zD]at hu;subst hu;obtain⟨b1,b2,b3,b4⟩:=K0 hb (zF _);obtain⟨s1,s2⟩:=qpi hd hs hz (i:=i) (n:=l.length) (d:=d) hpos hoff (qqf g1) hlen hb;split at s2;exact .inr (.inl ⟨s1,_,s2,P4 g1 g2 b3 (fun _=>by rw[hoff,Nat.add_mul]) (fun h=>by cases h) (fun _=>.inr ⟨by omega,rfl,hz,by simp[bE]⟩)⟩);refine .inr (.inr ⟨s1,s2.1,_,s2.2,?_⟩);have hn:(mS l a h)=[]:=List.eq_nil_of_length_eq_zero (by rw[bk b3];omega);rw[hn];simp only[aA];exact .inr ⟨x.s.nx,0,bL,rfl,(fun h=>by cases h),.inl trivial⟩
 |some vm=>
  simp only at hu;rw[hu.2];obtain⟨b0,b1,b2,b3,b4⟩:=Ao hb;obtain⟨s1,s2⟩:=qsy hd hs hz (i:=i) (n:=l.length) (d:=d) hpos hoff (qqf g1) hlen hb hu.1;have ht':Nat.beq m h=true->m-a=h-a/\m-a<bL:=fun hh=>by simp at hh;omega
  cases hml:Nat.beq m a with
  |true=>
   have:m=a:=by simpa[beq_eq]using hml
   rw[hml,zC]at s2;exact .inr (.inl ⟨s1,_,s2,P4 g1 g2 (by omega) (fun h1=>by omega) ht' (fun h1=>by omega)⟩)
  |false=>rw[hml,zD]at s2;exact .inr (.inl ⟨s1,_,s2,P4 g1 g2 (by omega) (fun h1=>rfl) ht' (fun h1=>.inl (by omega))⟩)
theorem z4u(hx:iC x){a u:U}{va:Value}(h:BL T x.σ t a lo hi mx=some u)(ha:aA x a va):co T x t u va lo hi mx:=by
 unfold BL at h;rcases hd:T.und t with _|d;simp[hd]at h;cases d with
 |string=>
  simp only[hd]at h;cases a with
  |str s=>cases mx with|some _=>simp at h|none=>simp only at h;rcases hb:fF s.length s.length lo hi none with _|q;simp[hb]at h;obtain⟨l,hh,m⟩:=q;simp only[hb,zA]at h;subst h;simp only[aA]at ha;subst ha;exact .inl ⟨.string ⟨((s.take hh).drop l).toArray⟩,by simp[kR,hd,hb],by simp[aA,mS]⟩
  |_=>simp at h
 |slice e=>
  simp only[hd]at h;rcases hs:bZ T e with _|sz;simp[hs]at h;simp only[hs]at h;cases a with
  |nils=>simp only at h;simp only[aA]at ha;subst ha;rcases hb:fF 0 0 lo hi mx with _|q;simp[hb]at h;obtain⟨l,hh,m⟩:=q;simp only[hb,zA]at h;subst h;obtain⟨rfl,rfl,rfl⟩:=Oi hb;exact .inl ⟨.slice none 0 0,by simp[kR,hd,hb,hs,y9],by simp[aA]⟩
  |sl k off n c=>
   simp only at h;rcases hl:bH x.σ k 0 with _|_;simp[hl]at h;simp only[hl,zC]at h;rcases hb:fF n c lo hi mx with _|q;simp[hb]at h;obtain⟨l,hh,m⟩:=q;simp only[hb,zA]at h;subst h;obtain⟨i,hi',rfl,hc,hnc⟩:=GR hl ha;obtain⟨_,hmc⟩:=z66 hb;have hhm:=z67 hb hnc;cases hml:Nat.beq m l with
   |true=>exact .inl ⟨_,by simp only[kR,hd,lX hc,zC,hb,hs,hml]<;>rfl,jt ha hi' (by omega) (by omega)⟩|false=>exact .inl ⟨_,by simp only[kR,hd,lX hc,zC,zD,hb,hs,hml]<;>rfl,jt ha hi' (by omega) (by omega)⟩
  |vl k st off n=>
   simp only at h;rcases hv:rD x.σ k st with _|q;simp[hv]at h;obtain⟨r,e',sz'⟩:=q;obtain⟨hg,hl⟩:=Nd hv;simp only[hv,beq_eq]at h;by_cases hz:sz'=sz;subst hz;simp only[yC,zC]at h;cases mx with
   |some _=>simp at h|none=>
    simp only at h;rcases hb:fF n n lo hi none with _|q;simp[hb]at h;obtain⟨l,hh,m⟩:=q;simp only[hb]at h;split at h;rename_i hlen;simp only[zA]at h;subst h;obtain⟨l0,e0,Z3,hg',hvl⟩:=P7 hl ha;have hgg:(some (B.vec r e' sz' st))=some (.vec l0 e0 Z3 st):=hg.symm.trans hg';cases hgg;obtain⟨_,k1,k2,h3⟩:=hx.ok k _ hg;have zero:∀o c,n=0->va=.slice o 0 c->(∀a,o=some a->a.spot=none)->(o=none->c=0)->∃o' c',kR T t va lo hi none=some (.slice o' 0 c')/\(c=0->c'=0)/\(∀a,o'=some a->a.spot=none)/\(o=none->o'=none)/\(∀a,o=some a->∃a',o'=some a')/\(¬ c<bL->o'=o/\c'=c):=by
     rintro o c rfl rfl hsp ho;obtain⟨b1,b2,b3,b4⟩:=K0 hb (Nat.zero_le c);obtain rfl:hh=0:=by omega
     obtain rfl:l=0:=by omega
     by_cases hc:c<bL;rcases o with _|a;exact⟨none,c,by simp[kR,hd,lX hc,b1,hs],by simp,by simp,by simp,by simp,fun hn=>absurd hc hn⟩;rcases hml:Nat.beq c 0 with _|_;exact⟨some ⟨a.block,a.off+0*sz',none⟩,c,by simp only[kR,hd,lX hc,b1,hs,hml,zC,zD,Nat.sub_zero],by simp,by simp,by simp,by simp,fun hn=>absurd hc hn⟩;exact⟨some a,c,by simp only[kR,hd,lX hc,b1,hs,hml,zC,Nat.sub_zero],by simp,by simpa using hsp a rfl,by simp,by simp,fun hn=>absurd hc hn⟩;rcases o with _|a;exact absurd (by rw[ho rfl];simp[bL]) hc;obtain rfl:m=0:=by omega
     exact⟨some a,c,by simp only[kR,hd,A0 hc,zD,emptyS,hb,hs],by simp,by simpa using hsp a rfl,by simp,by simp,fun _=>⟨rfl,rfl⟩⟩
    have FH:n=0->l=0/\hh=0:=fun Sx=>by obtain⟨b1,b2,b3,b4⟩:=K0 hb (zF _);omega
    rcases h3 with⟨hr0,hρ⟩|⟨i,l',e1,e2,e3⟩;rw[hρ]at hvl;obtain⟨rfl,rfl,o,rfl,hsp⟩:=hvl;obtain⟨rfl,rfl⟩:=FH rfl;obtain⟨o',c',q1,q2,q3,q4,q5,q6⟩:=zero o 0 rfl rfl hsp (fun _=>rfl);rw[q2 rfl]at q1;exact .inl ⟨_,q1,ZC ha hg rfl (by rw[hρ];exact⟨rfl,rfl,o',rfl,q3⟩)⟩;rw[e1]at hvl;rcases hvl with⟨h0,rfl,a,c,rfl,hsp⟩|rfl;obtain⟨rfl,rfl⟩:=FH rfl;obtain⟨o',c',q1,q2,q3,q4,q5,q6⟩:=zero (some a) c rfl rfl (by simpa using hsp) (by simp);obtain⟨a',rfl⟩:=q5 a rfl;exact .inl ⟨_,q1,ZC ha hg rfl (by rw[e1];exact .inl ⟨by omega,rfl,a',c',rfl,q3 a' rfl⟩)⟩;by_cases hn:n=0;subst hn;obtain⟨rfl,rfl⟩:=FH rfl;obtain⟨o',c',q1,q2,q3,q4,q5,q6⟩:=zero (some ⟨i,off*sz',none⟩) (bL+off) rfl rfl (by simp) (by simp);obtain⟨rfl,rfl⟩:=q6 (by omega);exact .inl ⟨_,q1,ZC ha hg rfl (by rw[e1];exact .inr rfl)⟩;have:=qpi hd hs k2 (i:=i) (n:=n) (d:=off) (by omega) rfl (qzf e2) (by rw[<-e3.2,<-Nat.add_mul];exact hlen) hb;obtain⟨s1,s2⟩:=this;split at s2;exact .inr (.inl ⟨s1,_,s2,ZC ha hg rfl (by rw[e1];exact .inr rfl)⟩);rename_i hlt;obtain⟨b1,b2,b3,b4⟩:=K0 hb (zF _);refine .inr (.inr ⟨s1,s2.1,_,s2.2,?_⟩);have hb':=Xi ha;have qx:hh-l=0:=by omega
    rw[qx];exact ZC (x:=bump x) hb' hg rfl (by show DZ _ _ _ _ (x.ρ k);rw[e1];exact .inl ⟨by omega,rfl,_,_,rfl,rfl⟩);cases h
   simp[hz]at h
  |isl tt l=>simp only at h;split at h;rename_i hall;rcases hb:fF l.length l.length lo hi mx with _|q;simp[hb]at h;obtain⟨a,hh,m⟩:=q;simp only[hb]at h;refine z4t hd hs (tt:=tt) hall hb ?_ ha;rcases mx with _|vm;simp only[zA]at h ⊢;exact h.symm;simp only at h ⊢;split at h;rename_i hm;simp only[zA]at h;exact⟨hm,h.symm⟩;cases h;cases h
  |_=>simp at h
 |_=>simp[hd]at h
variable{T:Tb}
variable{x:Cx}
variable{a:U}
variable{u:U}
variable{va:Value}
theorem qvz{st:TypeId}{f:Nat}(h:JZ T x.σ st a f=some u)(ha:aA x a va):∃v,Am T st va f=some v/\aA x u v:=by
 unfold JZ at h;unfold Am;rcases hd:T.und st with _|d;simp[hd]at h;cases d with
 |struct fs=>
  simp only[hd]at h ⊢;rcases hf:nth fs.toList f with _|fd;simp[hf]at h;simp only[hf]at h ⊢;rcases hs:bZ T fd.type with _|n;simp[hs]at h;cases n with
  |zero=>simp[hs]at h|succ n=>
   simp only[hs]at h;cases a with
   |ptr k s off=>simp only at h;rcases hl:bH x.σ k s with _|_;simp[hl]at h;simp only[hl,zC,zA]at h;subst h;obtain⟨i,hi,rfl⟩:=PD hl ha;exact⟨_,rfl,lh ha hi⟩
   |iptr l=>simp only[zA]at h;subst h;simp only[aA]at ha;obtain⟨i,off,row,e,rfl,h2,h3,h4⟩:=ha;refine⟨_,rfl,?_⟩;simp only[aA];exact⟨i,off+fd.offset,row,e,rfl,h2,by rw[<-List.drop_drop];exact h3.drop _,A4 h4 _⟩
   |_=>simp at h
 |_=>simp[hd]at h
theorem z1z{st:TypeId}{f:Nat}(h:Um T st a f=some u)(ha:aA x a va):∃v,ZG T st va f=some v/\aA x u v:=by
 unfold Um at h;unfold ZG;rcases hd:T.und st with _|d;simp[hd]at h;cases d with
 |struct fs=>
  simp only[hd]at h ⊢;rcases hf:nth fs.toList f with _|fd;simp[hf]at h;simp only[hf]at h ⊢;cases a with
  |agg cs=>simp only[aA]at ha;obtain⟨vs,rfl,h1,h2,h3⟩:=ha;exact pz h ⟨h1,h2⟩ h3
  |_=>simp at h
 |_=>simp[hd]at h
theorem GL{i:Int}{n:Nat}(h:0<=i/\i<n):o4 i n=true:=by
 unfold o4;cases i with
 |ofNat k=>exact lX (by have:=h.2;simp at this;exact this)|negSucc k=>have:=h.1;omega
variable{t:TypeId}
theorem qw5(hx:iC x){b:U}{vb:Value}(h:uR T x.σ t a b=some u)(ha:aA x a va)(hb:aA x b vb):∃v,Af T t va vb=some v/\aA x u v:=by
 unfold uR at h;cases b with
 |int k i=>
  simp only[aA]at hb;subst hb;simp only[Af];simp only at h;rcases hd:T.und t with _|d;simp[hd]at h;cases d with
  |slice e=>
   simp only[hd]at h;rcases hs:bZ T e with _|sz;simp[hs]at h;simp only[hs]at h;cases a with
   |sl k off n c=>
    simp only at h;rcases hl:bH x.σ k 0 with _|_;simp[hl]at h;simp only[hl,zC]at h;split at h;rename_i hin
    simp only[zA]at h;subst h;obtain⟨i',hi,rfl,_⟩:=GR hl ha;refine⟨_,by simp only[GL hin,zC,hs]<;>rfl,?_⟩;obtain⟨b,q1,q2⟩:=Ax hl;simp only[aA]at ha ⊢;exact⟨rfl,ha.2.1,fun b hb=>⟨Nat.zero_le _,fun _=>⟨i',hi,rfl⟩⟩⟩;cases h
   |vl k st off n=>
    simp only at h;rcases hv:rD x.σ k st with _|q;simp[hv]at h;obtain⟨l,e',sz'⟩:=q;obtain⟨hg,hl⟩:=Nd hv;simp only[hv,beq_eq]at h;by_cases hz:sz'=sz;subst hz;simp only[yC,zC]at h;split at h;rename_i hin
    simp only[zA]at h;subst h;obtain⟨i',l0,e0,Z3,l',h1,h2,rfl,h4,h5,h6,h7⟩:=Wj hx hl ha (by omega);have:=hg.symm.trans h1;cases this;refine⟨_,by simp only[GL ⟨hin.1,hin.2.1⟩,zC,hs]<;>rfl,?_⟩;simp only[aA]at ha ⊢;refine⟨rfl,ha.2.1,fun b hb=>⟨(ha.2.2 b hb).1,fun _=>⟨i',h2,rfl⟩⟩⟩;cases h;simp[hz]at h
   |isl tt l=>
    simp only at h;split at h;rename_i hin
    rcases hc:l[i.toNat]? with _|c;simp[hc]at h;simp only[hc,beq_eq]at h;by_cases hz:c.length=sz;simp only[hz,yC,zC,zA]at h;subst h;simp only[aA]at ha;rcases ha with⟨rfl,_⟩|⟨i',off,c',rfl,ht,hrow⟩;simp at hc;rcases hrow with rfl |⟨row,e',sz',g1,g2,g3⟩;simp at hc;obtain⟨q1,q2,q3⟩:=Ml g2 _ _ hc;refine⟨_,by simp only[GL hin,zC,hs]<;>rfl,?_⟩;simp only[aA];refine⟨i',off+i.toNat*sz,row,e',rfl,g1,?_,q2⟩;rw[List.drop_drop]at q3;rw[<-hz,q1];exact q3;simp[hz]at h;cases h
   |_=>simp at h
  |array n e=>
   simp only[hd]at h;rcases hs:bZ T e with _|sz;simp[hs]at h;simp only[hs]at h;cases a with
   |ptr k st off=>
    simp only at h;rcases hl:bH x.σ k st with _|_;simp[hl]at h;simp only[hl,zC]at h;split at h;rename_i hin
    simp only[zA]at h;subst h;obtain⟨i',hi,rfl⟩:=PD hl ha;exact⟨_,by simp only[GL hin,zC,hs]<;>rfl,lh ha hi⟩;cases h
   |iptr l=>
    simp only at h;split at h;rename_i hin
    simp only[zA]at h;subst h;simp only[aA]at ha;obtain⟨i',off,row,e',rfl,h2,h3,h4⟩:=ha;refine⟨_,by simp only[GL hin,zC,hs]<;>rfl,?_⟩;simp only[aA];exact⟨i',_,row,e',rfl,h2,by rw[<-List.drop_drop];exact h3.drop _,A4 h4 _⟩;cases h
   |_=>simp at h
  |_=>simp[hd]at h
 |_=>simp at h
theorem z2t{b:U}{vb:Value}(h:Ll T t a b=some u)(ha:aA x a va)(hb:aA x b vb):∃v,OY T t va vb=some v/\aA x u v:=by
 unfold Ll at h;cases a with
 |agg cs=>
  simp only at h;cases b with
  |int k i=>
   simp only[aA]at ha hb;subst hb;obtain⟨vs,rfl,h1,h2,h3⟩:=ha;simp only at h;rcases hd:T.und t with _|d;simp[hd]at h;cases d with
   |array n e=>
    simp only[hd]at h;split at h;rename_i hin
    rcases hs:bZ T e with _|sz;simp[hs]at h;simp only[hs]at h;obtain⟨v,q1,q2⟩:=pz h ⟨h1,h2⟩ h3;exact⟨v,by simp only[OY,hd,GL hin,zC,hs];exact q1,q2⟩;cases h
   |_=>simp[hd]at h
  |_=>simp at h
 |_=>exact LQ h ha hb
theorem zai(hx:iC x)(h:lenU T x.σ t a=some u)(ha:aA x a va):
  ∃ v,(xS T t va=some v\/(xS T t va=none/\∃ kt et r,T.und t=some (.map kt et)/\va = .map r/\(match r with
     |none=>some (Value.int .i64 0)|some r=>match lk x.s.h r with
      |some (.inr (es,_))=>some (.int .i64 es.length)|_=>none)=some v))/\aA x u v:=by
 unfold lenU at h;unfold xS;rcases hd:T.und t with _|d;simp[hd]at h;cases d with
 |string=>
  simp only[hd]at h ⊢;cases a with
  |str s=>simp only[zA]at h;subst h;simp only[aA]at ha;subst ha;exact⟨_,.inl rfl,by simp[aA]⟩|_=>simp at h
 |slice e=>
  simp only[hd]at h ⊢;cases a with
  |nils=>simp only[zA]at h;subst h;simp only[aA]at ha;subst ha;exact⟨_,.inl rfl,by simp[aA]⟩|sl k off n c=>simp only at h;rcases hl:bH x.σ k 0 with _|_;simp[hl]at h;simp only[hl,zC,zA]at h;subst h;obtain⟨i,_,rfl,_⟩:=GR hl ha;exact⟨_,.inl rfl,by simp[aA]⟩
  |vl k st off n=>simp only at h;rcases hl:bH x.σ k st with _|_;simp[hl]at h;simp only[hl,zC,zA]at h;subst h;obtain⟨_,_,_,_,hv⟩:=P7 hl ha;obtain⟨o,c,rfl⟩:=Ty hv;exact⟨_,.inl rfl,by simp[aA]⟩
  |isl tt l=>simp only[zA]at h;subst h;simp only[aA]at ha;rcases ha with⟨rfl,rfl |⟨_,rfl⟩⟩|⟨_,_,_,rfl,_⟩<;>exact⟨_,.inl rfl,by simp[aA]⟩
  |_=>simp at h
 |array n e=>simp only[hd]at h ⊢;cases a<;>simp at h<;>subst h<;>exact⟨_,.inl rfl,by simp[aA]⟩|map kt et=>
  simp only[hd]at h ⊢;cases a with
  |nilm=>simp only[zA]at h;subst h;simp only[aA]at ha;subst ha;exact⟨_,.inr ⟨trivial,kt,et,none,rfl,rfl,rfl⟩,by simp[aA]⟩|map k=>
   simp only at h;rcases hg:gt x.σ.h k with _|b;simp[hg]at h;cases b with
   |map es cl=>simp only[hg,zA]at h;subst h;obtain⟨i,hi,rfl⟩:=Mn (x:=x) (by simp[bH,hg,B.st]) ha;obtain⟨_,i',es',e1,e2,e3⟩:=hx.ok k _ hg;rw[hi]at e1;cases e1;exact⟨.int .i64 es'.length,.inr ⟨trivial,kt,et,some i,rfl,rfl,by simp[e2]⟩,by simp[aA,e3.1]⟩
   |_=>simp[hg]at h
  |_=>simp at h
 |_=>simp[hd]at h
theorem z9y(hx:iC x)(h:y8 T x.σ t a=some u)(ha:aA x a va):∃v,DH T t va=some v/\aA x u v:=by
 unfold y8 at h;unfold DH;rcases hd:T.und t with _|d;simp[hd]at h;cases d with
 |slice e=>
  simp only[hd]at h ⊢;cases a with
  |nils=>simp only[zA]at h;subst h;simp only[aA]at ha;subst ha;exact⟨_,rfl,by simp[aA]⟩|sl k off n c=>simp only at h;rcases hl:bH x.σ k 0 with _|_;simp[hl]at h;simp only[hl,zC,zA]at h;subst h;obtain⟨i,_,rfl,hc,_⟩:=GR hl ha;have hc':Nat.blt c bL=true:=Nat.ble_eq_true_of_le hc;exact⟨.int .i64 c,by simp only[hc',zC],by simp[aA]⟩
  |_=>simp at h
 |_=>simp[hd]at h
theorem z7i(hx:iC x){tm:List U}{tv:List Value}(ht:aX x tm tv){op:Op}(h:eU T x.σ tm op=some u):o7 T x tv op u x.σ:=by
 have one:∀v,gA T tv op=some v->aA x u v->o7 T x tv op u x.σ:=fun v h1 h2=>o7.same hx (z7d h1) h2;unfold eU at h;cases op with
 |move o=>obtain⟨v,h1,h2⟩:=gK ht h;exact one v (by simp[gA,h1]) h2
 |assign o=>obtain⟨v,h1,h2⟩:=gK ht h;exact one v (by simp[gA,h1]) h2
 |pick c a b=>
  simp only at h;rcases hc:bP tm c with _|cu;simp[hc]at h;obtain⟨cv,c1,c2⟩:=gK ht hc;cases cu with
  |bool t=>
   simp only[aA]at c2;subst c2;cases t with
   |true=>simp only[hc]at h;obtain⟨v,h1,h2⟩:=gK ht h;exact one v (by simp[gA,c1,h1]) h2
   |false=>simp only[hc]at h;obtain⟨v,h1,h2⟩:=gK ht h;exact one v (by simp[gA,c1,h1]) h2
  |_=>simp[hc]at h
 |build t ps=>simp only at h;rcases hp:tY tm ps.toList with _|qs;simp[hp]at h;simp only[hp]at h;obtain⟨vs,h1,h2⟩:=Yd ht hp;obtain⟨v,h3,h4⟩:=z1d h h2;exact one v (by simp[gA,h1,h3]) h4
 |nilCheck o=>
  simp only at h;rcases ho:bP tm o with _|a;simp[ho]at h;obtain⟨va,a1,a2⟩:=gK ht ho;cases a with
  |ptr k st off=>simp only[ho]at h;rcases hl:bH x.σ k st with _|_;simp[hl]at h;simp only[hl,zC,zA]at h;subst h;obtain⟨i,hi,rfl⟩:=PD hl a2;exact one _ (by simp[gA,a1]) a2
  |iptr l=>simp only[ho,zA]at h;subst h;have a3:=a2;simp only[aA]at a2;obtain⟨i,off,row,e,rfl,_⟩:=a2;exact one _ (by simp[gA,a1]) a3
  |fn f p q=>
   cases f with
   |func g=>simp only[ho,zA]at h;subst h;have a3:=a2;simp only[aA]at a2;obtain⟨i,off,rfl,_⟩:=a2;exact one _ (by simp[gA,a1]) a3
   |_=>simp[ho]at h
  |_=>simp[ho]at h
 |binOp o t a b ty=>simp only at h;rcases ha:bP tm a with _|au;simp[ha]at h;rcases hb:bP tm b with _|bu;simp[ha,hb]at h;simp only[ha,hb]at h;obtain⟨va,a1,a2⟩:=gK ht ha;obtain⟨vb,b1,b2⟩:=gK ht hb;obtain⟨v,h1,h2⟩:=z9s hx h a2 b2;exact one v (by simp[gA,a1,b1,h1]) h2
 |unOp o t a=>simp only at h;rcases ha:bP tm a with _|au;simp[ha]at h;simp only[ha]at h;obtain⟨va,a1,a2⟩:=gK ht ha;obtain⟨v,h1,h2⟩:=LR h a2;exact one v (by simp[gA,a1,h1]) h2
 |convert s d a=>simp only at h;rcases ha:bP tm a with _|au;simp[ha]at h;simp only[ha]at h;obtain⟨va,a1,a2⟩:=gK ht ha;obtain⟨v,h1,h2⟩:=LR h a2;exact one v (by simp[gA,a1,h1]) h2
 |makeFunc f a b=>simp only at h;rcases ha:jJ tm a.toList with _|au;simp[ha]at h;rcases hb:jJ tm b.toList with _|bu;simp[ha,hb]at h;simp only[ha,hb,zA]at h;subst h;obtain⟨va,a1,a2⟩:=H5 ht ha;obtain⟨vb,b1,b2⟩:=H5 ht hb;exact one _ (by simp[gA,a1,b1]<;>rfl) (by simp only[aA];exact⟨va,vb,rfl,a2.1,a2.2,b2.1,b2.2⟩)
 |slice t a lo hi mx=>simp only at h;rcases ha:bP tm a with _|au;simp[ha]at h;rcases h1:sA tm lo with _|lo';simp[ha,h1]at h;rcases h2:sA tm hi with _|hi';simp[ha,h1,h2]at h;rcases h3:sA tm mx with _|mx';simp[ha,h1,h2,h3]at h;simp only[ha,h1,h2,h3]at h;obtain⟨va,a1,a2⟩:=gK ht ha;have e1:=Ye ht h1;have e2:=Ye ht h2;have e3:=Ye ht h3;rcases z4u hx h a2 with⟨v,s1,s2⟩|⟨s0,v,s1,s2⟩|⟨s0,s1,v,s2,s3⟩;exact one v (by simp[gA,a1,e1,e2,e3,s1]) s2;exact o7.same hx (Ad (by simp[gA,a1,e1,e2,e3,s0]) (by simp[kP,a1,e1,e2,e3,s1])) s2;exact⟨v,bump x,gg (by simp[gA,a1,e1,e2,e3,s0]) (by simp[kP,a1,e1,e2,e3,s1]) (by simp[oZ,a1,e1,e2,e3,s2]),rfl,s3,z69 hx⟩
 |fieldAddr t a f=>simp only at h;rcases ha:bP tm a with _|au;simp[ha]at h;simp only[ha]at h;obtain⟨va,a1,a2⟩:=gK ht ha;obtain⟨v,h1,h2⟩:=qvz h a2;exact one v (by simp[gA,a1,h1]) h2
 |field t a f=>simp only at h;rcases ha:bP tm a with _|au;simp[ha]at h;simp only[ha]at h;obtain⟨va,a1,a2⟩:=gK ht ha;obtain⟨v,h1,h2⟩:=z1z h a2;exact one v (by simp[gA,a1,h1]) h2
 |indexAddr t a b=>simp only at h;rcases ha:bP tm a with _|au;simp[ha]at h;rcases hb:bP tm b with _|bu;simp[ha,hb]at h;simp only[ha,hb]at h;obtain⟨va,a1,a2⟩:=gK ht ha;obtain⟨vb,b1,b2⟩:=gK ht hb;obtain⟨v,h1,h2⟩:=qw5 hx h a2 b2;exact one v (by simp[gA,a1,b1,h1]) h2
 |index t a b=>simp only at h;rcases ha:bP tm a with _|au;simp[ha]at h;rcases hb:bP tm b with _|bu;simp[ha,hb]at h;simp only[ha,hb]at h;obtain⟨va,a1,a2⟩:=gK ht ha;obtain⟨vb,b1,b2⟩:=gK ht hb;obtain⟨v,h1,h2⟩:=z2t h a2 b2;exact one v (by simp[gA,a1,b1,h1]) h2
 |extract a i=>
  simp only at h;rcases ha:bP tm a with _|au;simp[ha]at h;simp only[ha]at h;obtain⟨va,a1,a2⟩:=gK ht ha;cases au with
  |tup l=>simp only[aA]at a2;obtain⟨vs,rfl,q1,q2⟩:=a2;simp only[Mr,gG]at h;obtain⟨v,h1,h2⟩:=(show aX x l vs from⟨q1,q2⟩).get h;exact one v (by simp[gA,a1,V3,gG,h1]) h2
  |_=>simp[Mr]at h
 |call c=>
  simp only at h;obtain⟨callee,args,ats⟩:=c;cases callee with
  |builtin b=>
   cases b with
   |len=>
    simp only at h;rcases ha:jJ tm args.toList with _|us;simp[ha]at h;obtain⟨vs,a1,a2⟩:=H5 ht ha;rcases hats:ats.toList with _|⟨t,ts⟩;simp[ha,hats]at h;rcases us with _|⟨a,l⟩;simp[ha]at h;cases l with
    |cons _ _=>simp[ha]at h|nil=>obtain⟨va,vs',rfl,r1,r2⟩:=a2.inv;rw[r2.nil_inv]at a1;simp only[ha,hats]at h;obtain⟨v,q1,q2⟩:=zai hx h r1;rcases q1 with q1 |⟨q0,kt,et,r,hd,rfl,q1⟩;exact one v (by simp[gA,a1,hats,q1]) q2;refine o7.same hx (Ad (by simp[gA,a1,hats,q0]) ?_) q2;rcases r with _|r;simp only[kP,a1,hats,hd];exact q1;simp only[kP,a1,hats,hd];exact q1
   |cap=>
    simp only at h;rcases ha:jJ tm args.toList with _|us;simp[ha]at h;obtain⟨vs,a1,a2⟩:=H5 ht ha;rcases hats:ats.toList with _|⟨t,ts⟩;simp[ha,hats]at h;rcases us with _|⟨a,l⟩;simp[ha]at h;cases l with
    |cons _ _=>simp[ha]at h|nil=>obtain⟨va,vs',rfl,r1,r2⟩:=a2.inv;rw[r2.nil_inv]at a1;simp only[ha,hats]at h;obtain⟨v,q1,q2⟩:=z9y hx h r1;exact one v (by simp[gA,a1,hats,q1]) q2
   |max=>simp only at h;rcases ha:jJ tm args.toList with _|us;simp[ha]at h;obtain⟨vs,a1,a2⟩:=H5 ht ha;rcases us with _|⟨a,l⟩;simp[ha]at h;obtain⟨va,vs',rfl,r1,r2⟩:=a2.inv;simp only[ha]at h;rcases h1:toV a with _|v1;simp[h1]at h;rcases h2:dK l with _|v2;simp[h1,h2]at h;simp only[h1,h2]at h;have e1:=(u6 a v1 h1 x va).1 r1;have e2:=(A3 l v2 h2 x vs').1 r2;subst e1;subst e2;rcases h3:sW JP va vs' with _|r;simp[h3]at h;simp only[h3]at h;exact one r (by simp[gA,a1,h3]) ((GG r u h).2 x)
   |min=>simp only at h;rcases ha:jJ tm args.toList with _|us;simp[ha]at h;obtain⟨vs,a1,a2⟩:=H5 ht ha;rcases us with _|⟨a,l⟩;simp[ha]at h;obtain⟨va,vs',rfl,r1,r2⟩:=a2.inv;simp only[ha]at h;rcases h1:toV a with _|v1;simp[h1]at h;rcases h2:dK l with _|v2;simp[h1,h2]at h;simp only[h1,h2]at h;have e1:=(u6 a v1 h1 x va).1 r1;have e2:=(A3 l v2 h2 x vs').1 r2;subst e1;subst e2;rcases h3:sW JO va vs' with _|r;simp[h3]at h;simp only[h3]at h;exact one r (by simp[gA,a1,h3]) ((GG r u h).2 x)
   |_=>simp at h
  |_=>simp at h
 |_=>simp at h
theorem Aj{T:Tb}{x:Cx}{kt:TypeId}{k:Value}:∀{es:List ME}{vs:List MapEntry}(i:Nat){r:Option (Nat×U)},pA x es vs->uP T kt k es i=some r->
  (r=none/\nG T kt k vs i=some none)\/∃j u v,r=some (j,u)/\nG T kt k vs i=some (some (j,v))/\aA x u v/\i<=j/\∃e e',es[j-i]? = some e/\e.val=u/\vs[j-i]? = some e'/\aA x e.key e'.key/\e'.born=e.born/\e'.val=v
 |[],vs,i,r,hm,h=>by
  simp only[uP,zA]at h;subst h;have:vs=[]:=by have:=hm.1;simpa using this.symm
  subst this;exact .inl ⟨rfl,rfl⟩
 |e::es,[],i,r,hm,h=>by have:=hm.1;simp at this
 |e::es,e'::vs,i,r,hm,h=>by
  obtain⟨v0,q0,q1,q2,q3⟩:=hm.2 0 e rfl;simp at q0;subst q0;have hm':pA x es vs:=⟨by have:=hm.1;simpa using this,fun j d hd=>by simpa using hm.2 (j+1) d (by simpa using hd)⟩;simp only[uP]at h;rcases hk:toV e.key with _|k';simp[hk]at h;simp only[hk]at h;have ek:=(u6 _ _ hk x _).1 q1;rcases he:eqv T 50 kt k k' with _|b;simp[he]at h;cases b with
  |true=>simp only[he,zA]at h;subst h;exact .inr ⟨i,e.val,e'.val,rfl,by simp[nG,ek,he],q2,zF _,e,e',by simp,rfl,by simp,q1,q3,rfl⟩|false=>simp only[he]at h;rcases Aj (i+1) hm' h with⟨h1,h2⟩|⟨j,u,v,h1,h2,h3,h4,d,d',h5,h6,h7,h8⟩;exact .inl ⟨h1,by simp[nG,ek,he,h2]⟩;refine .inr ⟨j,u,v,h1,by simp[nG,ek,he,h2],h3,by omega,d,d',?_,h6,?_,h8⟩;rw[show j-i=(j-(i+1))+1 by omega];simpa using h5;rw[show j-i=(j-(i+1))+1 by omega];simpa using h7
theorem gv{l:List U}{off:Nat}{lv:List Value}(h:yX T t l off=some u)(hl:c8 x l lv)(hk:okL l=true):
  ∃v,(match T.und t with
    |none=>none|some d=>cond (nZ d) (match bZ T t with
      |some n=>match rP lv off n with
       |some cs=>some (.agg cs.toArray)|none=>none
      |none=>none) (nth lv off))=some v/\aA x u v:=by
 unfold yX at h;rcases hd:T.und t with _|d;simp[hd]at h;simp only[hd]at h ⊢;cases ha:nZ d with
 |true=>
  simp only[ha,zC]at h ⊢;rcases hs:bZ T t with _|n;simp[hs]at h;simp only[hs]at h ⊢;rcases hg:iO l off n with _|cs;simp[hg]at h;simp only[hg,zA]at h;subst h;obtain⟨h1,rfl⟩:=K3 hg;have hlen:=c8.len hl;rw[ZB (by omega)];refine⟨_,rfl,?_⟩;simp only[aA];have:=(hl.drop off).takeE;have e1:aX x ((l.drop off).take n) ((lv.drop off).take n):=by refine aX.mk' (by simp;omega) fun i u hu=>?_;rw[List.getElem?_take]at hu ⊢;split at hu;rename_i hlt;simp only[hlt,if_true];exact(BV x _ _).1 (hl.drop off) i u hu;cases hu
  exact⟨_,rfl,e1.1,e1.2,GW (A4 hk _) _⟩
 |false=>simp only[ha,zD,gG]at h ⊢;exact(BV x _ _).1 hl _ _ h
theorem qms(hx:iC x){k st:Nat}{l:List U}(h:cellsOf x.σ k st=some l){off:Nat}{v:Value}(hr:aA x (.ptr k st off) v):
  ∃i lv e md,x.ρ k=some i/\v=.pointer (some ⟨i,off,none⟩)/\lk x.s.h i=some (.inl (lv,e,md))/\md≠1/\aX x l lv/\okL l=true/\
   ((md=0/\gt x.σ.h k=some (.row l e))\/(∃sz,md=sz+2/\0<sz/\gt x.σ.h k=some (.vec l e sz st))):=by
 unfold cellsOf at h;rcases hg:gt x.σ.h k with _|b;simp[hg]at h;cases b with
 |row l' e=>simp only[hg,beq_eq]at h;by_cases hst:0=st;subst hst;simp at h;subst h;obtain⟨i,hi,rfl⟩:=PD (x:=x) (by simp[bH,hg,B.st]) hr;obtain⟨_,k1,i',lv,e1,e2,e3⟩:=hx.ok k _ hg;rw[hi]at e1;cases e1;exact⟨i,lv,e,0,hi,rfl,e2,by omega,e3,k1,.inl ⟨rfl,rfl⟩⟩;simp[hst]at h
 |vec l' e sz st'=>simp only[hg,beq_eq]at h;by_cases hst:st'=st;subst hst;simp at h;subst h;obtain⟨i,hi,rfl⟩:=PD (x:=x) (by simp[bH,hg,B.st]) hr;obtain⟨_,k1,k2,h3⟩:=hx.ok k _ hg;rcases h3 with⟨h4,h5⟩|⟨i',lv,e1,e2,e3⟩;rw[hi]at h5;cases h5;rw[hi]at e1;cases e1;exact⟨i,lv,e,sz+2,hi,rfl,e2,by omega,e3,k1,.inr ⟨sz,rfl,k2,rfl⟩⟩;simp[hst]at h
 |map es cl=>simp[hg]at h
theorem pw(hx:iC x){tm:List U}{tv:List Value}(ht:aX x tm tv){op:Op}(h:kI T x.σ tm op=some u):o7 T x tv op u x.σ:=by
 unfold kI at h;cases op with
 |load t o=>
  simp only at h;rcases ho:bP tm o with _|a;simp[ho]at h;obtain⟨va,a1,a2⟩:=gK ht ho;cases a with
  |ptr k st off=>simp only[ho]at h;rcases hc:cellsOf x.σ k st with _|l;simp[hc]at h;simp only[hc]at h;obtain⟨i,lv,e,md,q1,rfl,q2,_,q3,q4,_⟩:=qms hx hc a2;obtain⟨v,r1,r2⟩:=gv h q3.1 q4;exact o7.same hx (Ad (by simp[gA]) (by simp only[kP,a1,q2];exact r1)) r2
  |iptr l=>
   simp only[ho]at h;simp only[aA]at a2;obtain⟨i,off,row,e,rfl,g1,g2,g3⟩:=a2;obtain⟨v,r1,r2⟩:=gv h g2 g3;refine o7.same hx (Ad (by simp[gA]) (v:=v) ?_) r2;simp only[kP,a1,g1];rcases hd:T.und t with _|d;simp[hd]at r1;simp only[hd]at r1 ⊢;cases ha:nZ d with
   |true=>simp only[ha,zC]at r1 ⊢;rcases hs:bZ T t with _|n;simp[hs]at r1;simp only[hs,rP,List.drop_drop,Nat.add_zero]at r1 ⊢;exact r1
   |false=>simp only[ha,zD,gG,List.getElem?_drop,Nat.add_zero]at r1 ⊢;exact r1
  |_=>simp[ho]at h
 |lookup t a b ok=>
  simp only at h;rcases hd:T.und t with _|d;simp[hd]at h;cases d with
  |map kt et=>
   rcases ha:bP tm a with _|m;simp[hd,ha]at h;rcases hb:bP tm b with _|ku;simp[hd,ha,hb]at h;simp only[hd,ha,hb]at h;obtain⟨va,a1,a2⟩:=gK ht ha;obtain⟨vb,b1,b2⟩:=gK ht hb;rcases hk:toV ku with _|kv;simp[hk]at h;simp only[hk]at h;have ekv:=(u6 _ _ hk x vb).1 b2;subst ekv;rcases hkey:lS T 50 kt vb with _|_;simp[hkey]at h;simp only[hkey,zC]at h;have key:∀ (es:List ME) (vs:List MapEntry),(va = .map none/\vs=[]\/∃ i cl,va = .map (some i)/\lk x.s.h i=some (.inr (vs,cl)))->pA x es vs->(match uP T kt vb es 0 with
      |none=>none|some (some (_,v))=>some (cond ok (.tup [v,.bool true]) v)
      |some none=>match T.inf et with
       |some (_,_,z)=>(match fU z with
        |some zu=>some (cond ok (.tup [zu,.bool false]) zu)|none=>none)
       |none=>none)=some u->o7 T x tv (.lookup t a b ok) u x.σ:=by
    intro es vs e1 e3 h;have fin:∀v,kP T tv x.s (.lookup t a b ok)=some v->aA x u v->o7 T x tv (.lookup t a b ok) u x.σ:=fun v h1 h2=>o7.same hx (Ad (by simp[gA]) h1) h2;have B1:∀(p:U)(q:Value)(bb:Bool),aA x p q->aA x (cond ok (.tup [p,.bool bb]) p) (cond ok (.tuple #[q,.bool bb]) q):=fun p q bb hpq=>by rcases ok with _|_;exact hpq;simp only[zC,aA];exact⟨[q,.bool bb],rfl,by simp[c8,hpq,aA],rfl⟩
    rcases hf:uP T kt vb es 0 with _|r';simp[hf]at h;rcases Aj 0 e3 hf with⟨rfl,h2⟩|⟨j,w,v,rfl,h2,h3,_⟩;simp only[hf]at h;rcases hi:T.inf et with _|q;simp[hi]at h;obtain⟨q1,q2,z⟩:=q;simp only[hi]at h;rcases hz:fU z with _|zu;simp[hz]at h;simp only[hz,zA]at h;subst h;have hrd:kP T tv x.s (.lookup t a b ok)=some (cond ok (.tuple #[z,.bool false]) z):=by rcases e1 with⟨rfl,rfl⟩|⟨i,cl,rfl,e1⟩;simp only[kP,hd,a1,b1,hkey,zC,h2,hi];simp only[kP,hd,a1,b1,hkey,zC,e1,h2,hi]
    exact fin _ hrd (B1 _ _ _ ((GG _ _ hz).2 x));simp only[hf,zA]at h;subst h;have hrd:kP T tv x.s (.lookup t a b ok)=some (cond ok (.tuple #[v,.bool true]) v):=by rcases e1 with⟨rfl,rfl⟩|⟨i,cl,rfl,e1⟩;simp only[kP,hd,a1,b1,hkey,zC,h2];simp only[kP,hd,a1,b1,hkey,zC,e1,h2]
    exact fin _ hrd (B1 _ _ _ h3)
   cases m with
   |nilm=>simp only[aA]at a2;exact key [] [] (.inl ⟨a2,rfl⟩) ⟨rfl,by simp⟩ h|map r=>
    simp only at h;rcases hg:gt x.σ.h r with _|bb;simp[hg]at h;cases bb with
    |map es cl=>simp only[hg]at h;obtain⟨i,hi,rfl⟩:=Mn (x:=x) (by simp[bH,hg,B.st]) a2;obtain⟨_,i',es',e1,e2,e3⟩:=hx.ok r _ hg;rw[hi]at e1;cases e1;exact key es es' (.inr ⟨i,cl,rfl,e2⟩) e3 h
    |_=>simp[hg]at h
   |_=>simp at h
  |_=>simp[hd]at h
 |_=>simp at h
variable{x:Cx}
variable{k:Nat}
variable{b:B}
theorem lO.mono{y:Cx}(h:lO x k b)(hm:Mo x.σ.nx x y)(hρ:y.ρ k=x.ρ k)(hl:∀i c,x.ρ k=some i->lk x.s.h i=some c->lk y.s.h i=some c):lO y k b:=by
 have relm:∀{es:List ME}{es':List MapEntry},pA x es es'->pA y es es':=fun{es es'} e3=>⟨e3.1,fun j e he=>by obtain⟨v,q1,q2,q3,q4⟩:=e3.2 j e he;exact⟨v,q1,hm.ke _ _ (aA.bel _ _ q2) q2,hm.ke _ _ (aA.bel _ _ q3) q3,q4⟩⟩;cases b with
 |row l e=>obtain⟨k1,i,l',e1,e2,e3⟩:=h;exact⟨k1,i,l',by rw[hρ,e1],hl _ _ e1 e2,hm.ke.E e3.bel e3⟩
 |vec l e sz st=>obtain⟨k1,k2,h3⟩:=h;refine⟨k1,k2,?_⟩;rcases h3 with⟨h3,h4⟩|⟨i,l',e1,e2,e3⟩;exact .inl ⟨h3,by rw[hρ,h4]⟩;exact .inr ⟨i,l',by rw[hρ,e1],hl _ _ e1 e2,hm.ke.E e3.bel e3⟩
 |map es cl=>obtain⟨i,es',e1,e2,e3⟩:=h;exact⟨i,es',by rw[hρ,e1],hl _ _ e1 e2,relm e3⟩
theorem lO.not1{i:Nat}(h:lO x k b)(hi:x.ρ k=some i){row:List Value}{e:TypeId}:lk x.s.h i≠some (.inl (row,e,1)):=by
 intro hl;cases b with
 |row l e'=>obtain⟨_,i',l',e1,e2,_⟩:=h;rw[hi]at e1;cases e1;rw[hl]at e2;cases e2
 |vec l e' sz st=>obtain⟨_,_,h3⟩:=h;rcases h3 with⟨_,h4⟩|⟨i',l',e1,e2,_⟩;rw[hi]at h4;cases h4;rw[hi]at e1;cases e1;rw[hl]at e2;cases e2
 |map es cl=>obtain⟨i',es',e1,e2,_⟩:=h;rw[hi]at e1;cases e1;rw[hl]at e2;cases e2
theorem step1{y:Cx}(hx:iC x)(K:Nat)(bK:B)(hn:x.σ.nx<=y.σ.nx)(hK:K<y.σ.nx)(hother:∀k,k≠K->gt y.σ.h k=gt x.σ.h k/\y.ρ k=x.ρ k)(hnew:gt y.σ.h K=some bK)
  (hold:(∃b0,gt x.σ.h K=some b0/\b0.st<=bK.st/\(b0.st=bK.st->y.ρ K=x.ρ K/\∀l e sz st,b0=.vec l e sz st->∃l',bK=.vec l' e sz st))\/(gt x.σ.h K=none/\x.σ.nx<=K))
  (hrows:∀i b,lk x.s.h i=some b->(∀c,gt x.σ.h K=some c->x.ρ K≠some i)->lk y.s.h i=some b)
  (hfresh:∀i,y.ρ K=some i->(∃c,gt x.σ.h K=some c/\x.ρ K=some i)\/x.s.nx<=i) (hbd:∀i b,lk y.s.h i=some b->i<y.s.nx) (hB:Mo x.σ.nx x y->lO y K bK):Out x y:=by
 have hmo:Mo x.σ.nx x y:=by refine⟨fun k hk _=>⟨by omega,fun b' hb'=>?_⟩,fun i row e hl=>hrows i _ hl fun c hc he=>(hx.ok K c hc).2.not1 he hl⟩;by_cases e:k=K;subst e;rw[hnew]at hb';cases hb';rcases hold with⟨b0,h1,h2,h3⟩|⟨_,h2⟩;exact⟨b0,h1,h2,h3⟩;omega;obtain⟨h1,h2⟩:=hother k e;exact⟨b',by rw[<-h1,hb'],zF _,fun _=>⟨h2,fun l e sz st h=>⟨l,h⟩⟩⟩
 have hne:∀k b i c,k≠K->gt x.σ.h k=some b->x.ρ k=some i->gt x.σ.h K=some c->x.ρ K≠some i:=fun k b i c hk hb hi hc he=>hk (hx.inj k K b c i hb hc hi he);refine⟨⟨fun k b hb=>?_,fun k k' b b' i hb hb' hi hi'=>?_,hbd⟩,hmo,fun F J i b hb=>?_⟩;by_cases e:k=K;subst e;rw[hnew]at hb;cases hb;exact⟨hK,hB hmo⟩;obtain⟨h1,h2⟩:=hother k e;rw[h1]at hb;obtain⟨h3,h4⟩:=hx.ok k b hb;exact⟨by omega,h4.mono hmo h2 fun i c hi hl=>hrows i c hl fun d hd=>hne k b i d e hb hi hd⟩;have own:∀k b i,k≠K->gt y.σ.h k=some b->y.ρ k=some i->gt x.σ.h k=some b/\x.ρ k=some i/\i<x.s.nx:=fun k b i e hb hi=>by
  obtain⟨h1,h2⟩:=hother k e;rw[h1]at hb;rw[h2]at hi;refine⟨hb,hi,?_⟩;have:=(hx.ok k b hb).2;cases b with
  |row l e=>obtain⟨_,i',l',e1,e2,_⟩:=this;rw[hi]at e1;cases e1;exact hx.bd _ _ e2
  |vec l e' sz st=>obtain⟨_,_,h3⟩:=this;rcases h3 with⟨_,h4⟩|⟨i',l',e1,e2,_⟩;rw[hi]at h4;cases h4;rw[hi]at e1;cases e1;exact hx.bd _ _ e2
  |map es cl=>obtain⟨i',es',e1,e2,_⟩:=this;rw[hi]at e1;cases e1;exact hx.bd _ _ e2
 by_cases e:k=K;by_cases e':k'=K;rw[e,e'];exfalso;subst e;obtain⟨q1,q2,q3⟩:=own k' b' i e' hb' hi';rcases hfresh i hi with⟨c,hc,hc'⟩|hge;exact e' (hx.inj k' k b' c i q1 hc q2 hc');omega;by_cases e':k'=K;exfalso;subst e';obtain⟨q1,q2,q3⟩:=own k b i e hb hi;rcases hfresh i hi' with⟨c,hc,hc'⟩|hge;exact e (hx.inj k k' b c i q1 hc q2 hc');omega;obtain⟨q1,q2,_⟩:=own k b i e hb hi;obtain⟨q3,q4,_⟩:=own k' b' i e' hb' hi';exact hx.inj k k' b b' i q1 q3 q2 q4;obtain⟨h1,h2⟩:=J i b hb;refine⟨hrows i b h1 fun c hc=>h2 K c hc,fun k c hc hi=>?_⟩;by_cases e:k=K;subst e;rcases hfresh i hi with⟨d,hd,hd'⟩|hge;exact h2 k d hd hd';have:=hx.bd i b h1;omega;obtain⟨q1,q2⟩:=hother k e;rw[q1]at hc;rw[q2]at hi;exact h2 k c hc hi
def jI(ρ:Nat->Option Nat)(k:Nat)(o:Option Nat):Nat->Option Nat:=fun j=>if j=k then o else ρ j
theorem Xr(ρ:Nat->Option Nat)(k:Nat)(o:Option Nat):jI ρ k o k=o:=by simp[jI]
theorem Vo(ρ:Nat->Option Nat){j:Nat}(o:Option Nat)(h:j≠k):jI ρ k o j=ρ j:=by simp[jI,h]
theorem LP(hx:iC x):gt x.σ.h x.σ.nx=none:=by
 rcases h:gt x.σ.h x.σ.nx with _|b;rfl;have:=(hx.ok _ b h).1;omega
theorem Wn(hx:iC x)(b:B)(c:iZ)(hB:∀y:Cx,y.ρ x.σ.nx=some x.s.nx->lk y.s.h x.s.nx=some c->Mo x.σ.nx x y->lO y x.σ.nx b):
  Out x ⟨jI x.ρ x.σ.nx (some x.s.nx),cY x.σ b,⟨(x.s.nx,c)::x.s.h,x.s.nx+1⟩⟩:=by
 refine step1 hx x.σ.nx b (by simp[cY]) (by simp[cY]) (fun k hk=>⟨by simp[cY,d8,Ne.symm hk],Vo _ _ hk⟩) (by simp[cY,d8]) (.inr ⟨LP hx,zF _⟩) (fun i d hd _=>?_) (fun i hi=>?_) (fun i d hd=>?_) (fun hm=>?_);have:=hx.bd i d hd;simp[jY,show x.s.nx≠i by omega,hd];change jI _ _ _ _=some i at hi;rw[Xr]at hi;cases hi;exact .inr (zF _);simp only[jY]at hd;split at hd;show i<x.s.nx+1;omega;exact Nat.lt_succ_of_lt (hx.bd i d hd);exact hB _ (by simp[jI]) (by simp[jY]) hm
theorem Mw(hx:iC x)(e:TypeId)(sz:Nat)(hsz:0<sz):Out x ⟨jI x.ρ x.σ.nx none,cY x.σ (.vec [] e sz 0),x.s⟩:=by
 refine step1 hx x.σ.nx (.vec [] e sz 0) (by simp[cY]) (by simp[cY]) (fun k hk=>⟨by simp[cY,d8,Ne.symm hk],Vo _ _ hk⟩) (by simp[cY,d8]) (.inr ⟨LP hx,zF _⟩) (fun i d hd _=>hd) (fun i hi=>?_) hx.bd (fun hm=>?_);change jI _ _ _ _=some i at hi;rw[Xr]at hi;cases hi;exact⟨rfl,hsz,.inl ⟨rfl,by simp[jI]⟩⟩
theorem ZR{c:iZ}{st:Nat}(hst:b.st=st){p:Option Nat->Prop}(hp:p (some x.s.nx)):Ref ⟨jI x.ρ x.σ.nx (some x.s.nx),cY x.σ b,⟨(x.s.nx,c)::x.s.h,x.s.nx+1⟩⟩ x.σ.nx st p:=by
 refine⟨by simp[cY],fun b' hb'=>?_⟩;simp only[cY,d8,if_true,zA]at hb';subst hb';exact⟨Nat.le_of_eq hst.symm,fun _=>by simpa[jI]using hp⟩
theorem UZ(hx:iC x){K i:Nat}{b0 bK:B}{c:iZ}(h0:gt x.σ.h K=some b0)(hi:x.ρ K=some i){c0:iZ}(CT:lk x.s.h i=some c0)(hst:b0.st=bK.st)(hv:∀l e sz st,b0=.vec l e sz st->∃l',bK=.vec l' e sz st)
  (hB:∀y:Cx,y.ρ K=some i->lk y.s.h i=some c->Mo x.σ.nx x y->lO y K bK):Out x ⟨x.ρ,⟨ug x.σ.h K bK,x.σ.nx⟩,⟨up x.s.h i c,x.s.nx⟩⟩:=by
 refine step1 hx K bK (zF _) (hx.ok K _ h0).1 (fun k hk=>⟨by simp[uO,Ne.symm hk],rfl⟩) (by simp[uO,h0]) (.inl ⟨b0,h0,Nat.le_of_eq hst,fun _=>⟨rfl,hv⟩⟩) (fun j d hd hne=>?_) (fun j hj=>.inl ⟨b0,h0,hj⟩) (fun j d hd=>?_) (fun hm=>?_);have:i≠j:=fun e=>hne b0 h0 (by rw[hi,e]);simp[tV,this,hd];simp only[tV]at hd;split at hd;rename_i e;subst e;exact hx.bd i _ CT;exact hx.bd j d hd;exact hB _ hi (by simp[tV,CT]) hm
theorem V5{zu:List U}{z:List Value}(h:aX x zu z)(n:Nat):aX x (qK zu n) (bR z n):=by
 induction n with|zero=>exact aX.nil x|succ n ih=>simp only[qK,List.replicate_succ,List.flatten_cons,bR];exact h.append ih
theorem Wi{zu:List U}(h:okL zu=true)(n:Nat):okL (qK zu n)=true:=by
 induction n with|zero=>rfl|succ n ih=>simp only[qK,List.replicate_succ,List.flatten_cons];exact BZ h ih
section
variable{T:Tb}{x:Cx}(hx:iC x){tm:List U}{tv:List Value}(ht:aX x tm tv)
include hx
theorem Nn{l:List U}{l':List Value}(hl:aX x l l')(hk:okL l=true)(e:TypeId):Out x ⟨jI x.ρ x.σ.nx (some x.s.nx),cY x.σ (.row l e),Rx.newRow x.s l' e 0⟩:=
 Wn hx (.row l e) (.inl (l',e,0)) fun y h1 h2 hm=>⟨hk,x.s.nx,l',h1,h2,hm.ke.E hl.bel hl⟩
theorem Nl{l:List U}{l':List Value}(hl:aX x l l')(hk:okL l=true)(e:TypeId){sz:Nat}(hsz:0<sz):Out x ⟨jI x.ρ x.σ.nx (some x.s.nx),cY x.σ (.vec l e sz 0),Rx.newRow x.s l' e (sz+2)⟩:=
 Wn hx (.vec l e sz 0) (.inl (l',e,sz+2)) fun y h1 h2 hm=>⟨hk,hsz,.inr ⟨x.s.nx,l',h1,h2,hm.ke.E hl.bel hl⟩⟩
variable{t:TypeId}
variable{r:U}
variable{σ':Sg}
theorem z54{p u:U}{pv uv:Value}(h:OQ T x.σ t p u=some (r,σ'))(hp:aA x p pv)(hu:aA x u uv):
  ∃v y,U8 T x.s t pv uv=some (v,y.s)/\y.σ=σ'/\aA y r v/\Out x y:=by
 unfold OQ at h;cases p with
 |ptr k st off=>
  simp only at h;rcases hs:bZ T t with _|n;simp[hs]at h;simp only[hs]at h;rcases hc:sC u with _|cs;simp[hc]at h;simp only[hc]at h;obtain⟨c1,c2⟩:=Yf hu hc;rcases hlen:Nat.beq cs.length n with _|_;simp[hlen]at h;simp only[hlen,zC,c2]at h;rcases hrow:cellsOf x.σ k st with _|l;simp[hrow]at h;simp only[hrow]at h;obtain⟨i,lv,e,md,q1,rfl,q2,q3,q4,q5,q6⟩:=qms hx hrow hp;have c1':=zbg (σ:=x.σ) (k:=k) c1;have c2':okL (yT x.σ k cs)=true:=by rw[NC];exact c2
  rcases hput:mQ l off (yT x.σ k cs)with _|l1;simp[hput]at h;simp only[hput]at h;obtain⟨rv,p1,p2,p3⟩:=Lw hput q4 c1';have p4:=p3 q5 c2';have hst:U8 T x.s t (.pointer (some ⟨i,off,none⟩)) uv=some (undef,⟨up x.s.h i (.inl (rv,e,md)),x.s.nx⟩):=by
   have hown:c9 x.s i=some (lv,e,md):=by unfold c9;rcases q6 with⟨rfl,_⟩|⟨sz,rfl,_⟩<;>simp[q2]
   simp only[U8,hs];rw[<-c1.2,hlen];simp only[zC,K6 c1 c2,hown,p1]
  rcases q6 with⟨rfl,hg⟩|⟨sz,rfl,hz,hg⟩;simp only[ED,hg,zA,zB]at h;obtain⟨rfl,rfl⟩:=h;exact⟨undef,⟨x.ρ,⟨ug x.σ.h k (.row l1 e),x.σ.nx⟩,⟨up x.s.h i (.inl (rv,e,0)),x.s.nx⟩⟩,hst,rfl,by simp[aA],UZ hx hg q1 q2 rfl (by simp) fun y h1 h2 hm=>⟨p4,i,rv,h1,h2,hm.ke.E p2.bel p2⟩⟩;simp only[ED,hg,zA,zB]at h;obtain⟨rfl,rfl⟩:=h;exact⟨undef,⟨x.ρ,⟨ug x.σ.h k (.vec l1 e sz st),x.σ.nx⟩,⟨up x.s.h i (.inl (rv,e,sz+2)),x.s.nx⟩⟩,hst,rfl,by simp[aA],UZ hx hg q1 q2 rfl (by rintro l e sz st h;cases h;exact⟨_,rfl⟩) fun y h1 h2 hm=>⟨p4,hz,.inr ⟨i,rv,h1,h2,hm.ke.E p2.bel p2⟩⟩⟩
 |_=>simp at h
theorem quh{n:Nat}{ps:List (Nat×U)}{pv:List (Nat×Value)}(h:Aw T x.σ t n ps=some (r,σ'))(hp:OP x ps pv):∃v y,Av T x.s t n pv=some (v,y.s)/\y.σ=σ'/\aA y r v/\Out x y:=by
 unfold Aw at h;rcases hd:T.und t with _|d;simp[hd]at h;cases d with
 |slice e=>
  simp only[hd]at h;rcases hi:T.inf e with _|q;simp[hi]at h;obtain⟨sz,by_,z⟩:=q;simp only[hi]at h;rcases h1:Nat.ble (n*sz) 16777216 with _|_;simp[h1]at h;simp only[h1,zC]at h;rcases h2:Nat.ble n 16777216 with _|_;simp[h2]at h;simp only[h2,zC]at h;rcases h3:Nat.beq z.cells.toList.length sz with _|_;simp only[h3,zD]at h;cases h;simp only[h3,zC]at h;rcases h4:mR z.cells.toList with _|zu;simp[h4]at h;simp only[h4]at h;have hzr:=(GP _ _ h4).2 x;rcases h5:pU (fun i=>some (i*sz,sz)) (qK zu n) ps with _|cs;simp[h5]at h;simp only[h5]at h;rcases h6:okL cs with _|_;simp[h6]at h;simp only[h6,zC,zA,zB]at h;obtain⟨rfl,rfl⟩:=h;obtain⟨rv,f1,f2⟩:=Ak hp (V5 hzr n) h5;have hcap:n<bL:=by have:=zY h2;unfold bL;omega
  refine⟨.slice (some ⟨x.s.nx,0,none⟩) n n,_,?_,rfl,?_,Nn hx f2 h6 e⟩;simp only[Av,hd,hi,h1,h3,zC,f1,lX hcap];simp only[aA];exact⟨rfl,ZR rfl ⟨x.s.nx,rfl,rfl,hcap,zF _⟩⟩
 |_=>simp[hd]at h
theorem z74{a b:U}{va vb:Value}(h:XN T x.σ t a b=some (r,σ'))(ha:aA x a va)(hb:aA x b vb):∃v y,XM T x.s t va vb=some (v,y.s)/\y.σ=σ'/\aA y r v/\Out x y:=by
 unfold XN at h;rcases hd:T.und t with _|d;simp[hd]at h;cases d with
 |slice e=>
  cases a with
  |int ka a=>
   cases b with
   |int kb b=>
    simp only[aA]at ha hb;subst ha;subst hb;simp only[hd]at h;rcases hi:T.inf e with _|q;simp[hi]at h;obtain⟨sz,by_,z⟩:=q;simp only[hi]at h;rcases h4:mR z.cells.toList with _|zu;simp[h4]at h;simp only[h4]at h;have hzr:=(GP _ _ h4).2 x;rcases h6:okL zu with _|_;simp[h6]at h;simp only[h6,zC]at h;rcases h3:Nat.beq z.cells.toList.length sz with _|_;simp only[h3,zD]at h;cases h;simp only[h3,zC]at h;split at h;rename_i hc;simp only[zA,zB]at h;obtain⟨rfl,rfl⟩:=h;obtain⟨c1,c2,c3,c4⟩:=hc;have hwa:IntKind.i64.wrap a=Int.ofNat a.toNat:=by rw[wrap_i64 (by omega) (by omega)];simp;omega
    have hwb:IntKind.i64.wrap b=Int.ofNat b.toNat:=by rw[wrap_i64 (by omega) (by omega)];simp;omega
    have hcap:b.toNat<bL:=by unfold bL;omega
    refine⟨.slice (some ⟨x.s.nx,0,none⟩) a.toNat b.toNat,_,?_,rfl,?_,Nn hx (V5 (ZN hzr) b.toNat) (Wi (by rw[U7];exact h6) _) e⟩;simp only[XM,hd,hi,hwa,hwb,h3,zC,lX hcap,Nat.ble_eq_true_of_le c3,Nat.ble_eq_true_of_le (show a.toNat<=b.toNat by omega)];simp only[aA];exact⟨rfl,ZR rfl ⟨x.s.nx,rfl,rfl,hcap,by omega⟩⟩;cases h
   |_=>simp[hd]at h
  |_=>simp[hd]at h
 |_=>simp[hd]at h
end
end Go.Vx
