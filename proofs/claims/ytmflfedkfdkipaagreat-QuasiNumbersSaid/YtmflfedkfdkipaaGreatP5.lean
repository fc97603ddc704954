import Derived.IntWalk
import Derived.Test.YtmflfedkfdkipaaGreatP4
set_option linter.all false
namespace Go.Rx
open Go
def WP(P:Program)(c:Code)(tm:List Value)(s:S)(Q:Exit->List Value->S->Prop):Prop :=
 ∀m w a,dS m s w->qK m s.nx tm a->a.defers=[]->
  c.wp P (fun e a' w'=>∃m' tm' s',Q e tm' s'/\bA m s w m' s' w'/\qK m' s'.nx tm' a'/\a'.defers=[]) a w
def Less(s s':S):Prop:=s.nx<=s'.nx/\∀i b,lk s'.h i=some b->lk s.h i=some b
theorem bA.less{m:Nm}{s s':S}{w:World}(h:dS m s w)(hl:Less s s'):bA m s w m s' w:=by
 refine⟨aG.refl _ _,hl.1,fun m' ha=>?_,?_,fun _ _ _=>rfl,zF _,rfl,rfl,rfl⟩;have hf:=h m' (ha.mono hl.1);exact⟨fun i b hb=>hf.ok i b (hl.2 i b hb),fun i j b c hb hc=>hf.inj i j b c (hl.2 i b hb) (hl.2 j c hc),fun i b hb=>Nat.lt_of_lt_of_le (hf.bd i b (hl.2 i b hb)) hl.1⟩;rintro k ⟨j,d,hd,ho,rfl⟩;exact .inl ⟨j,d,hl.2 j d hd,ho,rfl⟩
theorem kR{x:Int}(h1 : -9223372036854775808<=x)(h2:x<=9223372036854775807):IntKind.i64.wrap x=x:=IntWalk.i64_in x ⟨h1,h2⟩
section
variable{P:Program}{Q:Exit->List Value->S->Prop}{tm:List Value}{s:S}
theorem WP.exit{id:Nat}(h:Q (.exit id) tm s):WP P (.exit id) tm s Q:=fun m _ _ hf ha hd=>wp_exit ⟨m,tm,s,h,bA.refl hf,ha,hd⟩
def qb(id:Nat)(Q:Exit->List Value->S->Prop):Exit->List Value->S->Prop
 |.exit id',tm,s=>if id'=id then Q .normal tm s else Q (.exit id') tm s|e,tm,s=>Q e tm s
theorem WP.block{id:Nat}{c:Code}(h:WP P c tm s (qb id Q)):WP P (.block id c) tm s Q:=fun m w a hf ha hd=>by
 refine wp_block (wp_mono (h m w a hf ha hd) ?_);rintro e a' w' ⟨m',tm',s',h1,h2,h3,h4⟩;cases e with
 |exit id'=>simp only[Exit.inBlock];simp only[qb]at h1;by_cases hid:id'=id;simp only[hid,if_true]at h1 ⊢;exact⟨m',tm',s',h1,h2,h3,h4⟩;simp only[hid,if_false]at h1 ⊢;exact⟨m',tm',s',h1,h2,h3,h4⟩|_=>exact⟨m',tm',s',h1,h2,h3,h4⟩
variable{T:Tb}(hT:eZ P T){call:uZ}(hC:Q8 P call)
include hT hC
end
def p0(tm:List Value)(op:Op):Option Value :=
 match op with
 |.move x=>evalO tm x|.assign x=>evalO tm x
 |.pick c a b=>match evalO tm c with
  |some (.bool true)=>evalO tm a|some (.bool false)=>evalO tm b
  |_=>none
 |.nilCheck x=>match evalO tm x with
  |some (.pointer (some a))=>some (.pointer (some a))|_=>none
 |.binOp op _ x y _=>match evalO tm x,evalO tm y with
  |some (.int k a),some (.int k' b)=>fP op k a k' b|_,_=>none
 |.unOp op _ x=>match evalO tm x with
  |some a=>EY op a|none=>none
 |.makeFunc fn first cap=>match fX tm first.toList,fX tm cap.toList with
  |some a,some b=>some (.func fn a.toArray b.toArray)|_,_=>none
 |.extract x i=>match evalO tm x with
  |some a=>QS a i|none=>none
 |.call c=>match c.callee with
  |.builtin .max=>match fX tm c.args.toList with
   |some (x::l)=>pM KC x l|_=>none
  |.builtin .min=>match fX tm c.args.toList with
   |some (x::l)=>pM FE x l|_=>none
  |_=>none
 |_=>none
section
variable{T:Tb}{call:uZ}{ops rest:List Oper}{o:Oper}{tm:List Value}{s:S}{K:List Value->S->Prop}
end
section
variable{P:Program}{Q:Exit->List Value->S->Prop}{tm:List Value}{s:S}{T:Tb}(hT:eZ P T){call:uZ}(hC:Q8 P call)
include hT hC
end
end Go.Rx
namespace Go.Vx
open Go Go.Rx
inductive U where
 |junk
 |bool (b:Bool)
 |int (k:IntKind) (n:Int)
 |str (s:List UInt8)
 |nilp
 |ptr (k st off:Nat)
 |iptr (l:List U)
 |nils
 |sl (k off n c:Nat)
 |vl (k st off n:Nat)
 |isl (t:Bool) (l:List (List U))
 |nilm
 |map (k:Nat)
 |fn (f:Fn) (first cap:List U)
 |nilf
 |nili
 |agg (l:List U)
 |tup (l:List U)
 deriving Inhabited
def okC:U->Bool
 |.junk=>false|.agg _=>false
 |.tup _=>false|_=>true
def okL:List U->Bool
 |[]=>true|u::l=>cond (okC u) (okL l) false
theorem BC(l:List U):okL l=true↔∀u∈l,okC u=true:=by
 induction l with|nil=>simp[okL]|cons u l ih=>cases h:okC u<;>simp[okL,h,ih]
structure ME where
 key:U
 val:U
 born:Nat
inductive B where
 |row (l:List U) (e:TypeId)
 |vec (l:List U) (e:TypeId) (sz st:Nat)
 |map (es:List ME) (cl:Nat)
structure Sg where
 h:List (Nat×B)
 nx:Nat
def gt:List (Nat×B)->Nat->Option B
 |[],_=>none|(j,b)::h,i=>cond (Nat.beq j i) (some b) (gt h i)
def ug:List (Nat×B)->Nat->B->List (Nat×B)
 |[],_,_=>[]|(j,b)::h,i,c=>cond (Nat.beq j i) ((j,c)::h) ((j,b)::ug h i c)
theorem aK(j:Nat)(b:B)(h:List (Nat×B))(i:Nat):gt ((j,b)::h) i=if j=i then some b else gt h i:=by
 simp only[gt,beq_eq];by_cases e:j=i<;>simp[e]
theorem bL(h:List (Nat×B))(i:Nat)(c:B)(j:Nat):gt (ug h i c) j=if i=j then(gt h i).map (fun _=>c)else gt h j:=by
 induction h with|nil=>simp[ug,gt]|cons x h ih=>obtain⟨k,b⟩:=x;simp only[ug,beq_eq];by_cases e:k=i;subst e;simp only[yC,zC,aK];by_cases e2:k=j<;>simp[e2];simp only[e,yB,zD,aK,ih];by_cases e2:i=j;subst e2;simp[e];by_cases e3:k=j<;>simp[e2,e3]
def B.st:B->Nat
 |.vec _ _ _ st=>st|_=>0
structure Cx where
 ρ:Nat->Option Nat
 σ:Sg
 s:S
def Ref(x:Cx)(k st:Nat)(p:Option Nat->Prop):Prop:=k<x.σ.nx/\∀b,gt x.σ.h k=some b->st<=b.st/\(st=b.st->p (x.ρ k))
def wD(off n:Nat)(v:Value)(sz:Nat):Option Nat->Prop
 |none=>off=0/\n=0/\∃o,v=.slice o 0 0/\∀a,o=some a->a.spot=none|some i=>(0<off/\n=0/\∃a c,v=.slice (some a) 0 c/\a.spot=none)\/v=.slice (some ⟨i,off*sz,none⟩) n (b7+off)
mutual
def aA(x:Cx):U->Value->Prop
 |.junk,_=>True|.bool b,v=>v=.bool b
 |.int k n,v=>v=.int k n|.str l,v=>v=.string ⟨⟨l⟩⟩
 |.nilp,v=>v=.pointer none|.ptr k st off,v=>v.oneCell'=true/\Ref x k st fun o=>∃i,o=some i/\v=.pointer (some ⟨i,off,none⟩)
 |.iptr l,v=>∃i off row e,v=.pointer (some ⟨i,off,none⟩)/\lk x.s.h i=some (.inl (row,e,1))/\bN x l (row.drop off)/\okL l=true|.nils,v=>v=.slice none 0 0
 |.sl k off n c,v=>v.oneCell'=true/\Ref x k 0 fun o=>∃i,o=some i/\v=.slice (some ⟨i,off,none⟩) n c/\c<b7/\n<=c
 |.vl k st off n,v=>v.oneCell'=true/\k<x.σ.nx/\∀b,gt x.σ.h k=some b->st<=b.st/\(st=b.st->∃l e sz,b=.vec l e sz st/\wD off n v sz (x.ρ k))|.isl t l,v=>(l=[]/\(v=.slice none 0 0\/∃r,v=.chan (some r)))\/∃i off c,v=.slice (some ⟨i,off,none⟩) l.length c/\(t=true->c=l.length/\c<b7)/\
   (l=[]\/∃row e sz,lk x.s.h i=some (.inl (row,e,1))/\eD x sz l (row.drop off)/\ ((c<b7/\l.length<=c)\/(b7<=c/\e=sz+1/\0<sz/\off=aW c*sz/\off+l.length*sz<=row.length)))
 |.nilm,v=>v=.map none|.map k,v=>v.oneCell'=true/\Ref x k 0 fun o=>∃i,o=some i/\v=.map (some i)
 |.fn f a b,v=>∃va vb,v=.func f ⟨va⟩ ⟨vb⟩/\bN x a va/\a.length=va.length/\bN x b vb/\b.length=vb.length|.nilf,v=>v=.nilFunc
 |.nili,v=>v=.nilIface|.agg l,v=>∃vs,v=.agg ⟨vs⟩/\bN x l vs/\l.length=vs.length/\okL l=true
 |.tup l,v=>∃vs,v=.tuple ⟨vs⟩/\bN x l vs/\l.length=vs.length
def bN(x:Cx):List U->List Value->Prop
 |[],_=>True|u::us,vs=>match vs with
  |[]=>False|v::vs=>aA x u v/\bN x us vs
def eD(x:Cx)(sz:Nat):List (List U)->List Value->Prop
 |[],_=>True|c::cs,vs=>c.length=sz/\okL c=true/\bN x c vs/\eD x sz cs (vs.drop sz)
end
mutual
def aJ(n:Nat):U->Prop
 |.ptr k _ _=>k<n|.sl k _ _ _=>k<n
 |.vl k _ _ _=>k<n|.map k=>k<n
 |.iptr l=>aE n l|.isl _ l=>fW n l
 |.fn _ a b=>aE n a/\aE n b|.agg l=>aE n l
 |.tup l=>aE n l|_=>True
def aE(n:Nat):List U->Prop
 |[]=>True|u::us=>aJ n u/\aE n us
def fW(n:Nat):List (List U)->Prop
 |[]=>True|c::cs=>aE n c/\fW n cs
end
theorem wS(x:Cx):∀(l:List U)(vs:List Value),bN x l vs↔∀(i:Nat)(u:U),l[i]? = some u->∃v,vs[i]? = some v/\aA x u v
 |[],vs=>by simp[bN]
 |u::us,[]=>by simp only[bN,false_iff];intro h;obtain⟨v,hv,_⟩:=h 0 u rfl;simp at hv
 |u::us,v::vs=>by
  simp only[bN,wS x us vs];constructor;rintro⟨h1,h2⟩ i w hi;cases i with
  |zero=>simp at hi;subst hi;exact⟨v,rfl,h1⟩|succ i=>simp at hi;simpa using h2 i w hi
  intro h;refine⟨?_,fun i w hi=>by simpa using h (i+1) w (by simpa using hi)⟩;obtain⟨v',h1,h2⟩:=h 0 u rfl;simp at h1;subst h1;exact h2
theorem sF(n:Nat):∀l:List U,aE n l↔∀u∈l,aJ n u
 |[]=>by simp[aE]
 |u::us=>by simp[aE,sF n us]
theorem QV(n:Nat):∀l:List (List U),fW n l↔∀c∈l,aE n c
 |[]=>by simp[fW]
 |u::us=>by simp[fW,QV n us]
structure Mo(n:Nat)(x y:Cx):Prop where
 ref:∀k,k<n->k<x.σ.nx->k<y.σ.nx/\∀b',gt y.σ.h k=some b'->∃b,gt x.σ.h k=some b/\b.st<=b'.st/\(b.st=b'.st->y.ρ k=x.ρ k/\∀l e sz st,b=.vec l e sz st->∃l',b'=.vec l' e sz st)
 imm:∀i row e,lk x.s.h i=some (.inl (row,e,1))->lk y.s.h i=some (.inl (row,e,1))
variable{n:Nat}
variable{x:Cx}
variable{y:Cx}
theorem Mo.ref'(h:Mo n x y){k st:Nat}{p:Option Nat->Prop}(hk:k<n)(hr:Ref x k st p):Ref y k st p:=by
 obtain⟨h1,h2⟩:=hr;obtain⟨g1,g2⟩:=h.ref k hk h1;refine⟨g1,fun b' hb'=>?_⟩;obtain⟨b,e1,e2,e3⟩:=g2 b' hb';obtain⟨e4,e5⟩:=h2 b e1;refine⟨Nat.le_trans e4 e2,fun e=>?_⟩;have:b.st=b'.st:=by omega
 rw[(e3 this).1];exact e5 (by omega)
mutual
theorem aA.mono{n:Nat}{x y:Cx}(h:Mo n x y):(u:U)->(v:Value)->aJ n u->aA x u v->aA y u v
 |.junk,v,_,_=>by simp[aA]
 |.bool b,v,_,hr=>by simpa[aA]using hr
 |.int k z,v,_,hr=>by simpa[aA]using hr
 |.str l,v,_,hr=>by simpa[aA]using hr
 |.nilp,v,_,hr=>by simpa[aA]using hr
 |.ptr k st off,v,hb,hr=>by simp only[aA]at*;exact⟨hr.1,h.ref' (by simpa[aJ]using hb) hr.2⟩
 |.iptr l,v,hb,hr=>by simp only[aA]at*;obtain⟨i,off,row,e,h1,h2,h3,h4⟩:=hr;exact⟨i,off,row,e,h1,h.imm _ _ _ h2,bN.mono h l _ (by simpa[aJ]using hb) h3,h4⟩
 |.nils,v,_,hr=>by simpa[aA]using hr
 |.sl k off m c,v,hb,hr=>by simp only[aA]at*;exact⟨hr.1,h.ref' (by simpa[aJ]using hb) hr.2⟩
 |.vl k st off m,v,hb,hr=>by
  simp only[aA]at*;obtain⟨h0,h1,h2⟩:=hr;obtain⟨g1,g2⟩:=h.ref k (by simpa[aJ]using hb) h1;refine⟨h0,g1,fun b' hb'=>?_⟩;obtain⟨b,e1,e2,e3⟩:=g2 b' hb';obtain⟨e4,e5⟩:=h2 b e1;refine⟨Nat.le_trans e4 e2,fun e=>?_⟩;have e6:b.st=b'.st:=by omega
  obtain⟨l,e',sz,e7,e8⟩:=e5 (by omega);obtain⟨e9,d_⟩:=e3 e6;obtain⟨l',c_⟩:=d_ _ _ _ _ e7;rw[e9];exact⟨l',e',sz,c_,e8⟩
 |.isl t l,v,hb,hr=>by simp only[aA]at*;rcases hr with hr |⟨i,off,c,h1,h2,h3⟩;exact .inl hr;refine .inr ⟨i,off,c,h1,h2,?_⟩;rcases h3 with h3 |⟨row,e,sz,g1,g2,g3⟩;exact .inl h3;exact .inr ⟨row,e,sz,h.imm _ _ _ g1,eD.mono h l _ (by simpa[aJ]using hb) g2,g3⟩
 |.nilm,v,_,hr=>by simpa[aA]using hr
 |.map k,v,hb,hr=>by simp only[aA]at*;exact⟨hr.1,h.ref' (by simpa[aJ]using hb) hr.2⟩
 |.fn f a b,v,hb,hr=>by simp only[aA]at*;obtain⟨va,vb,h1,h2,h3,h4,h5⟩:=hr;simp only[aJ]at hb;exact⟨va,vb,h1,bN.mono h a _ hb.1 h2,h3,bN.mono h b _ hb.2 h4,h5⟩
 |.nilf,v,_,hr=>by simpa[aA]using hr
 |.nili,v,_,hr=>by simpa[aA]using hr
 |.agg l,v,hb,hr=>by simp only[aA]at*;obtain⟨vs,h1,h2,h3⟩:=hr;exact⟨vs,h1,bN.mono h l _ (by simpa[aJ]using hb) h2,h3⟩
 |.tup l,v,hb,hr=>by simp only[aA]at*;obtain⟨vs,h1,h2,h3⟩:=hr;exact⟨vs,h1,bN.mono h l _ (by simpa[aJ]using hb) h2,h3⟩
theorem bN.mono{n:Nat}{x y:Cx}(h:Mo n x y):(l:List U)->(vs:List Value)->aE n l->bN x l vs->bN y l vs
 |[],_,_,_=>by simp[bN]
 |u::us,[],_,hr=>by simp[bN]at hr
 |u::us,v::vs,hb,hr=>by simp only[bN,aE]at*;exact⟨aA.mono h u v hb.1 hr.1,bN.mono h us vs hb.2 hr.2⟩
theorem eD.mono{n sz:Nat}{x y:Cx}(h:Mo n x y):(l:List (List U))->(vs:List Value)->fW n l->eD x sz l vs->eD y sz l vs
 |[],_,_,_=>by simp[eD]
 |c::cs,vs,hb,hr=>by simp only[eD,fW]at*;exact⟨hr.1,hr.2.1,bN.mono h c vs hb.1 hr.2.2.1,eD.mono h cs _ hb.2 hr.2.2.2⟩
end
mutual
theorem aA.bel{x:Cx}:(u:U)->(v:Value)->aA x u v->aJ x.σ.nx u
 |.ptr k st off,v,hr=>by simp only[aA,aJ]at*;exact hr.2.1
 |.sl k off m c,v,hr=>by simp only[aA,aJ]at*;exact hr.2.1
 |.vl k st off m,v,hr=>by simp only[aA,aJ]at*;exact hr.2.1
 |.map k,v,hr=>by simp only[aA,aJ]at*;exact hr.2.1
 |.iptr l,v,hr=>by simp only[aA,aJ]at*;obtain⟨i,off,row,e,h1,h2,h3,_⟩:=hr;exact bN.bel l _ h3
 |.isl t l,v,hr=>by simp only[aA,aJ]at*;rcases hr with⟨rfl,_⟩|⟨i,off,c,h1,h2,h3⟩;simp[fW];rcases h3 with rfl |⟨row,e,sz,g1,g2,_⟩;simp[fW];exact eD.bel l _ g2
 |.fn f a b,v,hr=>by simp only[aA,aJ]at*;obtain⟨va,vb,h1,h2,h3,h4,h5⟩:=hr;exact⟨bN.bel a _ h2,bN.bel b _ h4⟩
 |.agg l,v,hr=>by simp only[aA,aJ]at*;obtain⟨vs,h1,h2,h3⟩:=hr;exact bN.bel l _ h2
 |.tup l,v,hr=>by simp only[aA,aJ]at*;obtain⟨vs,h1,h2,h3⟩:=hr;exact bN.bel l _ h2
 |.junk,_,_=>by simp[aJ]
 |.bool _,_,_=>by simp[aJ]
 |.int _ _,_,_=>by simp[aJ]
 |.str _,_,_=>by simp[aJ]
 |.nilp,_,_=>by simp[aJ]
 |.nils,_,_=>by simp[aJ]
 |.nilm,_,_=>by simp[aJ]
 |.nilf,_,_=>by simp[aJ]
 |.nili,_,_=>by simp[aJ]
theorem bN.bel{x:Cx}:(l:List U)->(vs:List Value)->bN x l vs->aE x.σ.nx l
 |[],_,_=>by simp[aE]
 |u::us,[],hr=>by simp[bN]at hr
 |u::us,v::vs,hr=>by simp only[bN,aE]at*;exact⟨aA.bel u v hr.1,bN.bel us vs hr.2⟩
theorem eD.bel{x:Cx}{sz:Nat}:(l:List (List U))->(vs:List Value)->eD x sz l vs->fW x.σ.nx l
 |[],_,_=>by simp[fW]
 |c::cs,vs,hr=>by simp only[eD,fW]at*;exact⟨bN.bel c vs hr.2.2.1,eD.bel cs _ hr.2.2.2⟩
end
def aQ(x:Cx)(l:List U)(vs:List Value):Prop:=bN x l vs/\l.length=vs.length
variable{l:List U}
variable{vs:List Value}
variable{u:U}
theorem aQ.get(h:aQ x l vs){i:Nat}(hu:l[i]? = some u):∃v,vs[i]? = some v/\aA x u v:=(wS x l vs).1 h.1 i u hu
theorem aQ.mk'(hl:l.length=vs.length)(h:∀(i:Nat)(u:U),l[i]? = some u->∃v,vs[i]? = some v/\aA x u v):aQ x l vs:=⟨(wS x l vs).2 h,hl⟩
theorem aQ.nil(x:Cx):aQ x [] []:=⟨by simp[bN],rfl⟩
theorem aQ.cons{v:Value}(h:aA x u v)(h':aQ x l vs):aQ x (u::l) (v::vs):=⟨by simp[bN,h,h'.1],by simp[h'.2]⟩
theorem aQ.inv(h:aQ x (u::l) vs):∃v vs',vs=v::vs'/\aA x u v/\aQ x l vs':=by
 obtain⟨h1,h2⟩:=h;rcases vs with _|⟨v,vs⟩;simp at h2;simp only[bN]at h1;exact⟨v,vs,rfl,h1.1,h1.2,by simpa using h2⟩
theorem aQ.nil_inv(h:aQ x [] vs):vs=[]:=by
 have:=h.2;simpa using this.symm
theorem aQ.append{a b:List U}{va vb:List Value}(h:aQ x a va)(h':aQ x b vb):aQ x (a++b) (va++vb):=by
 induction a generalizing va with|nil=>rw[h.nil_inv];exact h'|cons u a ih=>obtain⟨v,vs,rfl,h1,h2⟩:=h.inv;exact aQ.cons h1 (ih h2)
theorem aQ.drop{x:Cx}{a:List U}{va:List Value}(h:aQ x a va)(n:Nat):aQ x (a.drop n) (va.drop n):=by
 refine aQ.mk' (by simp[h.2]) fun i u hu=>?_;rw[List.getElem?_drop]at hu ⊢;exact h.get hu
theorem aQ.take{x:Cx}{a:List U}{va:List Value}(h:aQ x a va)(n:Nat):aQ x (a.take n) (va.take n):=by
 refine aQ.mk' (by simp[h.2]) fun i u hu=>?_;rw[List.getElem?_take]at hu ⊢;split at hu;rename_i hlt;simp only[hlt,if_true];exact h.get hu;cases hu
theorem aQ.set{x:Cx}{a:List U}{va:List Value}(h:aQ x a va)(n:Nat){u:U}{v:Value}(hu:aA x u v):aQ x (a.set n u) (va.set n v):=by
 refine aQ.mk' (by simp[h.2]) fun i w hw=>?_;rw[List.getElem?_set]at hw ⊢;split at hw;split at hw;cases hw;rename_i h1 h2;subst h1;rw[h.2]at h2;simp[h2,hu];cases hw;rename_i hne;simp only[hne,if_false];exact h.get hw
theorem aQ.mono{n:Nat}{x y:Cx}(h:Mo n x y){l:List U}{vs:List Value}(hb:aE n l)(hr:aQ x l vs):aQ y l vs:=⟨bN.mono h l vs hb hr.1,hr.2⟩
theorem bN.takeE(h:bN x l vs):aQ x l (vs.take l.length):=by
 refine aQ.mk' ?_ fun i u hu=>?_;rcases Nat.lt_or_ge vs.length l.length with hlt |hge
 have hu:l[vs.length]? = some l[vs.length]:=by simp[hlt]
 obtain⟨v,hv,_⟩:=(wS x l vs).1 h _ _ hu;simp at hv;simp;omega;obtain⟨v,hv,hr⟩:=(wS x l vs).1 h i u hu;have:i<l.length:=(zG.1 hu).1;exact⟨v,by rw[List.getElem?_take];simp[this,hv],hr⟩
theorem bN.len(h:bN x l vs):l.length<=vs.length:=by
 have:=h.takeE.2;rw[List.length_take]at this;omega
theorem bN.drop{x:Cx}{l:List U}{vs:List Value}(h:bN x l vs)(n:Nat):bN x (l.drop n) (vs.drop n):=by
 rw[wS]at*;intro i u hu;rw[List.getElem?_drop]at hu ⊢;exact h _ _ hu
def jG(x:Cx)(es:List ME)(vs:List MapEntry):Prop:=es.length=vs.length/\∀(i:Nat)(e:ME),es[i]? = some e->∃v:MapEntry,vs[i]? = some v/\aA x e.key v.key/\aA x e.val v.val/\v.born=e.born
def iZ(x:Cx)(k:Nat):B->Prop
 |.row l e=>okL l=true/\∃i l',x.ρ k=some i/\lk x.s.h i=some (.inl (l',e,0))/\aQ x l l'|.vec l e sz _=>okL l=true/\0<sz/\(l=[]/\x.ρ k=none\/∃i l',x.ρ k=some i/\lk x.s.h i=some (.inl (l',e,sz+2))/\aQ x l l')
 |.map es cl=>∃i es',x.ρ k=some i/\lk x.s.h i=some (.inr (es',cl))/\jG x es es'
structure eQ(x:Cx):Prop where
 ok:∀k b,gt x.σ.h k=some b->k<x.σ.nx/\iZ x k b
 inj:∀k k' b b' i,gt x.σ.h k=some b->gt x.σ.h k'=some b'->x.ρ k=some i->x.ρ k'=some i->k=k'
 bd:∀i b,lk x.s.h i=some b->i<x.s.nx
def Fr(F:Nat->i5->Prop)(x:Cx):Prop:=∀i b,F i b->lk x.s.h i=some b/\∀k c,gt x.σ.h k=some c->x.ρ k≠some i
def Ke(n:Nat)(x y:Cx):Prop:=∀u v,aJ n u->aA x u v->aA y u v
theorem Ke.refl(n:Nat)(x:Cx):Ke n x x:=fun _ _ _ h=>h
theorem Ke.trans{z:Cx}(h:Ke n x y)(h':Ke n y z):Ke n x z:=fun u v hb hr=>h' u v hb (h u v hb hr)
mutual
theorem aJ.le{n k:Nat}(h:n<=k):(u:U)->aJ n u->aJ k u
 |.ptr a _ _,hb=>by simp only[aJ]at*;omega
 |.sl a _ _ _,hb=>by simp only[aJ]at*;omega
 |.vl a _ _ _,hb=>by simp only[aJ]at*;omega
 |.map a,hb=>by simp only[aJ]at*;omega
 |.iptr l,hb=>by simp only[aJ]at*;exact aE.le h l hb
 |.isl t l,hb=>by simp only[aJ]at*;exact fW.le h l hb
 |.fn f a b,hb=>by simp only[aJ]at*;exact⟨aE.le h a hb.1,aE.le h b hb.2⟩
 |.agg l,hb=>by simp only[aJ]at*;exact aE.le h l hb
 |.tup l,hb=>by simp only[aJ]at*;exact aE.le h l hb
 |.junk,_=>by simp[aJ]
 |.bool _,_=>by simp[aJ]
 |.int _ _,_=>by simp[aJ]
 |.str _,_=>by simp[aJ]
 |.nilp,_=>by simp[aJ]
 |.nils,_=>by simp[aJ]
 |.nilm,_=>by simp[aJ]
 |.nilf,_=>by simp[aJ]
 |.nili,_=>by simp[aJ]
theorem aE.le{n k:Nat}(h:n<=k):(l:List U)->aE n l->aE k l
 |[],_=>by simp[aE]
 |u::us,hb=>by simp only[aE]at*;exact⟨aJ.le h u hb.1,aE.le h us hb.2⟩
theorem fW.le{n k:Nat}(h:n<=k):(l:List (List U))->fW n l->fW k l
 |[],_=>by simp[fW]
 |u::us,hb=>by simp only[fW]at*;exact⟨aE.le h u hb.1,fW.le h us hb.2⟩
end
theorem Ke.le{n k:Nat}{x y:Cx}(h:Ke k x y)(hk:n<=k):Ke n x y:=fun u v hb hr=>h u v (aJ.le hk u hb) hr
theorem Mo.ke(h:Mo n x y):Ke n x y:=fun u v hb hr=>aA.mono h u v hb hr
theorem Ke.E(h:Ke n x y)(hb:aE n l)(hr:aQ x l vs):aQ y l vs :=
 aQ.mk' hr.2 fun i u hu=>by obtain⟨v,h1,h2⟩:=hr.get hu;exact⟨v,h1,h u v ((sF n l).1 hb u (zX hu)) h2⟩
theorem aQ.bel{x:Cx}{l:List U}{vs:List Value}(hr:aQ x l vs):aE x.σ.nx l:=bN.bel l vs hr.1
mutual
def toV:U->Option Value
 |.bool b=>some (.bool b)|.int k n=>some (.int k n)
 |.str s=>some (.string ⟨⟨s⟩⟩)|.nilp=>some (.pointer none)
 |.nils=>some (.slice none 0 0)|.nilm=>some (.map none)
 |.nilf=>some .nilFunc|.nili=>some .nilIface
 |.agg l=>cond (okL l) (match j0 l with
  |some vs=>some (.agg ⟨vs⟩)|none=>none) none
 |_=>none
def j0:List U->Option (List Value)
 |[]=>some []|u::l=>match toV u with
  |some v=>(match j0 l with
   |some vs=>some (v::vs)|none=>none)
  |none=>none
end
mutual
def eT:Value->Option U
 |.bool b=>some (.bool b)|.int k n=>some (.int k n)
 |.string s=>some (.str s.data.toList)|.pointer none=>some .nilp
 |.slice none n c=>match n,c with
  |0,0=>some .nils|_,_=>none
 |.map none=>some .nilm|.nilFunc=>some .nilf
 |.nilIface=>some .nili|.agg ⟨l⟩=>match jF l with
  |some us=>cond (okL us) (some (.agg us)) none|none=>none
 |_=>none
def jF:List Value->Option (List U)
 |[]=>some []|v::l=>match eT v with
  |some u=>(match jF l with
   |some us=>some (u::us)|none=>none)
  |none=>none
end
def o0:U->Option (List U)
 |.junk=>none|.tup _=>none
 |.agg l=>some l|u=>some [u]
def bD(tm:List U):Operand->Option U
 |.tmp t=>nth tm t|.const v=>eT v
 |.func f=>some (.fn (.func f) [] [])|.global _=>none
def iC(tm:List U):List Operand->Option (List U)
 |[]=>some []|x::l=>match bD tm x with
  |some v=>(match iC tm l with
   |some r=>some (v::r)|none=>none)
  |none=>none
def pQ(tm:List U):List (Nat×Operand)->Option (List (Nat×U))
 |[]=>some []|(i,x)::l=>match bD tm x with
  |some v=>(match pQ tm l with
   |some r=>some ((i,v)::r)|none=>none)
  |none=>none
def nZ(tm:List U):Option Operand->Option (Option Value)
 |none=>some none|some x=>match bD tm x with
  |some (.int k n)=>some (some (.int k n))|_=>none
def live(σ:Sg)(k st:Nat):Bool:=match gt σ.h k with
 |some b=>Nat.beq b.st st|none=>false
def cellsOf(σ:Sg)(k st:Nat):Option (List U):=match gt σ.h k with
 |some (.row l _)=>cond (Nat.beq 0 st) (some l) none|some (.vec l _ _ st')=>cond (Nat.beq st' st) (some l) none
 |_=>none
def rowOf(σ:Sg)(k:Nat):Option (List U):=match gt σ.h k with
 |some (.row l _)=>some l|_=>none
def iU(σ:Sg)(k st:Nat):Option (List U×TypeId×Nat):=match gt σ.h k with
 |some (.vec l e sz st')=>cond (Nat.beq st' st) (some (l,e,sz)) none|_=>none
def B3(σ:Sg)(k:Nat)(l:List U):Option Sg:=match gt σ.h k with
 |some (.row _ e)=>some ⟨ug σ.h k (.row l e),σ.nx⟩|some (.vec _ e sz st)=>some ⟨ug σ.h k (.vec l e sz st),σ.nx⟩
 |_=>none
def fI(l:List U)(off n:Nat):Option (List U):=if off+n<=l.length then some ((l.drop off).take n)else none
def jW(l:List U)(off:Nat)(vs:List U):Option (List U):=if off+vs.length<=l.length then some (l.take off++(vs++l.drop (off+vs.length)))else none
def Bk(T:Tb)(t:TypeId)(cs:List U)(off:Nat):Option U :=
 match T.und t with
 |none=>none|some d=>cond (kQ d) (match bJ T t with
   |some n=>some (.agg ((cs.drop off).take n))|none=>none) (nth cs off)
def lH(place:Nat->Option (Nat×Nat))(cells:List U):List (Nat×U)->Option (List U)
 |[]=>some cells|(i,v)::rest=>match place i with
  |none=>none|some (off,size)=>match o0 v with
   |none=>none|some cs=>cond (Nat.beq cs.length size) (match jW cells off cs with
    |some c=>lH place c rest|none=>none) none
def Q6(T:Tb)(t:TypeId)(ps:List (Nat×U)):Option U :=
 match T.inf t with
 |none=>none|some (_,_,z)=>match jF z.cells.toList with
  |none=>none|some zu=>match T.und t with
   |some (.struct fs)=>cond (wM T fs.toList) (match lH (BG T fs.toList) zu ps with
    |some cs=>cond (okL cs) (some (.agg cs)) none|none=>none) none
   |some (.array _ e)=>(match bJ T e with
    |none=>none|some n=>match lH (fun i=>some (i*n,n)) zu ps with
     |some cs=>cond (okL cs) (some (.agg cs)) none|none=>none)
   |_=>none
def g1(f:Value->Option Value)(u:U):Option U:=match toV u with
 |some v=>(match f v with
  |some r=>eT r|none=>none)
 |none=>none
def g2(f:Value->Value->Option Value)(a b:U):Option U:=match toV a with
 |some x=>(match toV b with
  |some y=>(match f x y with
   |some r=>eT r|none=>none)
  |none=>none)
 |none=>none
def dW(σ:Sg):U->Nat
 |.ptr k st _=>cond (live σ k st) 1 0|.iptr _=>1
 |.sl k _ _ _=>cond (live σ k 0) 2 0|.vl k st _ (_+1)=>cond (live σ k st) 2 0
 |.isl _ (_::_)=>2|.map k=>cond (live σ k 0) 3 0
 |_=>0
def BD:U->Nat
 |.nilp=>1|.nils=>2
 |.nilm=>3|_=>0
def pL(T:Tb)(t:TypeId):Nat:=match T.und t with
 |some (.pointer _)=>1|some (.slice _)=>2
 |some (.map _ _)=>3|_=>0
def uH:BinOp->Option U
 |.eql=>some (.bool false)|.neq=>some (.bool true)
 |_=>none
def PU(T:Tb)(σ:Sg)(op:BinOp)(t:TypeId)(x y:U):Option U :=
 cond (Nat.beq (pL T t) 0) none (cond (cond (Nat.beq (dW σ x) (pL T t)) (Nat.beq (BD y) (pL T t)) (cond (Nat.beq (BD x) (pL T t)) (Nat.beq (dW σ y) (pL T t)) false)) (uH op) none)
def A4(T:Tb)(σ:Sg)(op:BinOp)(t:TypeId)(x y:U):Option U:=match g2 (mN T op t) x y with
 |some r=>some r|none=>PU T σ op t x y
def VQ(T:Tb)(σ:Sg)(st:TypeId)(x:U)(f:Nat):Option U :=
 match T.und st with
 |some (.struct fs)=>match nth fs.toList f with
  |some fd=>(match bJ T fd.type with
   |some (_+1)=>match x with
    |.ptr k s off=>cond (live σ k s) (some (.ptr k s (off+fd.offset))) none|.iptr l=>some (.iptr (l.drop fd.offset))
    |_=>none
   |_=>none)
  |none=>none
 |_=>none
def Mk(T:Tb)(st:TypeId)(x:U)(f:Nat):Option U :=
 match T.und st with
 |some (.struct fs)=>match nth fs.toList f with
  |some fd=>(match x with
   |.agg cs=>Bk T fd.type cs fd.offset|_=>none)
  |none=>none
 |_=>none
def sE(T:Tb)(σ:Sg)(t:TypeId)(x ix:U):Option U :=
 match ix with
 |.int _ i=>match T.und t with
  |some (.slice e)=>(match bJ T e with
   |some sz=>match x with
    |.sl k off n _=>cond (live σ k 0) (if 0<=i/\i<n then some (.ptr k 0 (off+i.toNat*sz))else none) none|.vl k st off n=>(match iU σ k st with
     |some (l,_,sz')=>cond (Nat.beq sz' sz) (if 0<=i/\i<n/\l≠[]then some (.ptr k st (off*sz+i.toNat*sz))else none) none|none=>none)
    |.isl _ l=>if 0<=i/\i<l.length then(match l[i.toNat]? with
     |some c=>cond (Nat.beq c.length sz) (some (.iptr c)) none|none=>none)else none
    |_=>none
   |none=>none)
  |some (.array n e)=>(match bJ T e with
   |some sz=>match x with
    |.ptr k st off=>cond (live σ k st) (if 0<=i/\i<n then some (.ptr k st (off+i.toNat*sz))else none) none|.iptr l=>if 0<=i/\i<n then some (.iptr (l.drop (i.toNat*sz)))else none
    |_=>none
   |none=>none)
  |_=>none
 |_=>none
def Cp(T:Tb)(t:TypeId)(x ix:U):Option U :=
 match x with
 |.agg cs=>(match ix with
  |.int _ i=>match T.und t with
   |some (.array n e)=>(if 0<=i/\i<n then(match bJ T e with
    |some sz=>Bk T e cs (i.toNat*sz)|none=>none)else none)
   |_=>none
  |_=>none)
 |_=>g2 (KJ T t) x ix
def Dz(x:U)(i:Nat):Option U:=match x with
 |.tup vs=>nth vs i|_=>none
def oI(T:Tb)(σ:Sg)(t:TypeId)(x:U):Option U:=match T.und t with
 |some (.slice _)=>(match x with
  |.nils=>some (.int .i64 0)|.sl k _ n _=>cond (live σ k 0) (some (.int .i64 n)) none
  |.vl k st _ n=>cond (live σ k st) (some (.int .i64 n)) none|.isl _ l=>some (.int .i64 l.length)
  |_=>none)
 |some .string=>(match x with
  |.str s=>some (.int .i64 s.length)|_=>none)
 |some (.array n _)=>(match x with
  |.junk=>none|_=>some (.int .i64 n))
 |some (.map _ _)=>(match x with
  |.nilm=>some (.int .i64 0)|.map k=>(match gt σ.h k with
   |some (.map es _)=>some (.int .i64 es.length)|_=>none)
  |_=>none)
 |_=>none
def OO(T:Tb)(σ:Sg)(t:TypeId)(x:U):Option U:=match T.und t with
 |some (.slice _)=>(match x with
  |.nils=>some (.int .i64 0)|.sl k _ _ c=>cond (live σ k 0) (some (.int .i64 c)) none
  |_=>none)
 |_=>none
def jY{α:Type}(l:List α)(lo hi:Nat):List α:=(l.take hi).drop lo
def FG(T:Tb)(σ:Sg)(t:TypeId)(x:U)(lo hi mx:Option Value):Option U :=
 match T.und t with
 |some .string=>(match x with
  |.str s=>(match mx with
   |some _=>none|none=>match dN s.length s.length lo hi none with
    |some (l,h,_)=>some (.str (jY s l h))|none=>none)
  |_=>none)
 |some (.slice e)=>(match bJ T e with
  |some sz=>match x with
   |.nils=>(match dN 0 0 lo hi mx with
    |some _=>some .nils|none=>none)
   |.sl k off n c=>cond (live σ k 0) (match dN n c lo hi mx with
    |some (l,h,m)=>some (.sl k (cond (Nat.beq m l) off (off+l*sz)) (h-l) (m-l))|none=>none) none
   |.vl k st off n=>(match iU σ k st with
    |some (r,_,sz')=>cond (Nat.beq sz' sz) (match mx with
     |some _=>none|none=>match dN n n lo hi none with
      |some (l,h,_)=>if(off+n)*sz<=r.length then some (.vl k st (off+l) (h-l))else none|none=>none) none
    |none=>none)
   |.isl t l=>if(l.all fun c=>Nat.beq c.length sz)=true then(match dN l.length l.length lo hi mx with
    |some (a,h,m)=>(match mx with
      |some _=>if m<b7 then some (.isl (Nat.beq m h) (jY l a h))else none|none=>some (.isl (cond t (Nat.beq h l.length) false) (jY l a h)))
    |none=>none)else none
   |_=>none
  |none=>none)
 |_=>none
def eH(T:Tb)(σ:Sg)(tm:List U)(op:Op):Option U :=
 match op with
 |.move x=>bD tm x|.assign x=>bD tm x
 |.pick c a b=>(match bD tm c with
  |some (.bool true)=>bD tm a|some (.bool false)=>bD tm b
  |_=>none)
 |.build t ps=>(match pQ tm ps.toList with
  |some qs=>Q6 T t qs|none=>none)
 |.nilCheck x=>(match bD tm x with
  |some (.ptr k st off)=>cond (live σ k st) (some (.ptr k st off)) none|some (.iptr l)=>some (.iptr l)
  |some (.fn (.func f) a b)=>some (.fn (.func f) a b)|_=>none)
 |.binOp op t x y _=>(match bD tm x,bD tm y with
  |some a,some b=>A4 T σ op t a b|_,_=>none)
 |.unOp op _ x=>(match bD tm x with
  |some a=>g1 (EY op) a|none=>none)
 |.convert s d x=>(match bD tm x with
  |some a=>g1 (KF T s d) a|none=>none)
 |.makeFunc fn first cap=>(match iC tm first.toList,iC tm cap.toList with
  |some a,some b=>some (.fn fn a b)|_,_=>none)
 |.slice t x lo hi mx=>(match bD tm x,nZ tm lo,nZ tm hi,nZ tm mx with
  |some a,some l,some h,some m=>FG T σ t a l h m|_,_,_,_=>none)
 |.fieldAddr t x f=>(match bD tm x with
  |some a=>VQ T σ t a f|none=>none)
 |.field t x f=>(match bD tm x with
  |some a=>Mk T t a f|none=>none)
 |.indexAddr t x i=>(match bD tm x,bD tm i with
  |some a,some b=>sE T σ t a b|_,_=>none)
 |.index t x i=>(match bD tm x,bD tm i with
  |some a,some b=>Cp T t a b|_,_=>none)
 |.extract x i=>(match bD tm x with
  |some a=>Dz a i|none=>none)
 |.call c=>(match c.callee with
  |.builtin .len=>(match iC tm c.args.toList,c.argTypes.toList with
   |some [x],t::_=>oI T σ t x|_,_=>none)
  |.builtin .cap=>(match iC tm c.args.toList,c.argTypes.toList with
   |some [x],t::_=>OO T σ t x|_,_=>none)
  |.builtin .max=>(match iC tm c.args.toList with
   |some (x::l)=>(match toV x,j0 l with
    |some a,some b=>(match pM KC a b with
     |some r=>eT r|none=>none)
    |_,_=>none)
   |_=>none)
  |.builtin .min=>(match iC tm c.args.toList with
   |some (x::l)=>(match toV x,j0 l with
    |some a,some b=>(match pM FE a b with
     |some r=>eT r|none=>none)
    |_,_=>none)
   |_=>none)
  |_=>none)
 |_=>none
def tG(T:Tb)(kt:TypeId)(k:Value):List ME->Nat->Option (Option (Nat×U))
 |[],_=>some none|e::es,i=>match toV e.key with
  |none=>none|some k'=>match eqv T 50 kt k k' with
   |some true=>some (some (i,e.val))|some false=>tG T kt k es (i+1)
   |none=>none
def uY(T:Tb)(t:TypeId)(l:List U)(off:Nat):Option U:=match T.und t with
 |none=>none|some d=>cond (kQ d) (match bJ T t with
   |some n=>(match fI l off n with
    |some cs=>some (.agg cs)|none=>none)
   |none=>none) (nth l off)
def kN(T:Tb)(σ:Sg)(tm:List U)(op:Op):Option U :=
 match op with
 |.load t x=>(match bD tm x with
  |some (.ptr k st off)=>(match cellsOf σ k st with
   |some l=>uY T t l off|none=>none)
  |some (.iptr l)=>uY T t l 0|_=>none)
 |.lookup t x k ok=>(match T.und t,bD tm x,bD tm k with
  |some (.map kt et),some m,some ku=>(match toV ku with
   |none=>none|some kv=>cond (jX T 50 kt kv)
    (match (match m with
      |.nilm=>some []|.map r=>(match gt σ.h r with
       |some (.map es _)=>some es|_=>none)
      |_=>none)with
     |none=>none|some es=>match tG T kt kv es 0 with
      |none=>none|some (some (_,v))=>some (cond ok (.tup [v,.bool true]) v)
      |some none=>match T.inf et with
       |some (_,_,z)=>(match eT z with
        |some zu=>some (cond ok (.tup [zu,.bool false]) zu)|none=>none)
       |none=>none) none)
  |_,_,_=>none)
 |_=>none
def SP:U->U
 |.nils=>.isl false []|.isl _ l=>.isl false l
 |u=>u
def kJ:List U->List U
 |[]=>[]|u::l=>SP u::kJ l
def newU(σ:Sg)(b:B):Sg:=⟨(σ.nx,b)::σ.h,σ.nx+1⟩
def m7(σ:Sg)(sz:Nat)(x:U):Option (Nat×List U):=match x with
 |.nils=>some (0,[])|.isl _ l=>if(l.all fun c=>Nat.beq c.length sz)=true then some (l.length,l.flatten)else none
 |.sl k off n _=>(match rowOf σ k with
  |some l=>(match fI l off (n*sz)with
   |some cs=>some (n,kJ cs)|none=>none)
  |none=>none)
 |.vl k st off n=>(match iU σ k st with
  |some (l,_,sz')=>cond (Nat.beq sz' sz) (match fI l (off*sz) (n*sz)with
   |some cs=>some (n,cs)|none=>none) none
  |none=>none)
 |_=>none
def sD(T:Tb)(σ:Sg)(t xt:TypeId)(s x:U):Option (U×Sg):=
 match T.und t,T.und xt with
 |some (.slice e),some (.slice _)=>(match T.inf e with
  |some (sz+1,by_,z)=>cond (Nat.beq z.cells.toList.length (sz+1)) (match m7 σ (sz+1) x with
   |none=>none|some (k,new)=>match s with
    |.nils=>if k*by_<=140737488355328/\k<=140737488355328 then some (.vl σ.nx 0 0 k,newU σ (.vec new e (sz+1) 0))else none|.isl true l=>if(l.length+k)*by_<=140737488355328/\l.length+k<=140737488355328/\0<k/\(l.all fun c=>Nat.beq c.length (sz+1))=true then some (.vl σ.nx 0 0 (l.length+k),newU σ (.vec (l.flatten++new) e (sz+1) 0))else none
    |.sl a off n c=>(match rowOf σ a with
     |none=>none|some l=>match fI l off (n*(sz+1))with
      |none=>none|some old=>if n=0/\c=0 then(if k*by_<=140737488355328/\k<=140737488355328 then some (.vl σ.nx 0 0 k,newU σ (.vec new e (sz+1) 0))else none)
       else if c<n+k then(if(n+k)*by_<=140737488355328/\n+k<=140737488355328/\0<k then some (.vl σ.nx 0 0 (n+k),newU σ (.vec (kJ old++new) e (sz+1) 0))else none)else none)
    |.vl a st off n=>(match gt σ.h a with
     |some (.vec l e' sz' st')=>cond (Nat.beq st' st) (cond (Nat.beq e' e) (cond (Nat.beq sz' (sz+1)) (match fI l (off*(sz+1)) (n*(sz+1))with
      |none=>none|some p=>if(n+k)*by_<=140737488355328/\n+k<=140737488355328/\(0<k/\(off=0\/0<n)\/off=0/\n*(sz+1)=l.length)then some (.vl a (st+1) 0 (n+k),⟨ug σ.h a (.vec (p++new) e (sz+1) (st+1)),σ.nx⟩)else none) none) none) none
     |_=>none)
    |_=>none) none
  |_=>none)
 |_,_=>none
def Pe(T:Tb)(σ:Sg)(t xt:TypeId)(s x:U):Option (U×Sg):=
 match T.und t,T.und xt,s,x with
 |some (.slice e),some (.int _),.nils,.int _ i=>(match T.inf e with
  |some (sz+1,by_,z)=>(match jF z.cells.toList with
   |some zu=>if 0<i/\i.toNat*by_<=140737488355328/\i.toNat<=140737488355328/\z.cells.toList.length=sz+1/\okL zu=true then
     some (.vl σ.nx 0 0 i.toNat,newU σ (.vec (kJ (List.replicate i.toNat zu).flatten) e (sz+1) 0))else none
   |none=>none)
  |_=>none)
 |_,_,_,_=>none
def Ec(T:Tb)(σ:Sg)(t xt:TypeId)(s x:U):Option (U×Sg):=match sD T σ t xt s x with
 |some r=>some r|none=>Pe T σ t xt s x
def Kj(T:Tb)(σ:Sg)(t:TypeId)(d x:U):Option (U×Sg):=
 match T.und t with
 |some (.slice e)=>(match bJ T e with
  |none=>none|some sz=>match m7 σ sz x with
   |none=>none|some (k,cs)=>match d with
    |.sl a off n _=>(match rowOf σ a with
     |some l=>if n=0\/k=0\/sz=0 then none else(match jW l off (cs.take (Nat.min k n*sz))with
      |some l'=>(match B3 σ a l' with
       |some σ'=>some (.int .i64 (Nat.min k n),σ')|none=>none)
      |none=>none)
     |none=>none)
    |_=>none)
 |_=>none
def uO(σ:Sg)(k:Nat)(cs:List U):List U:=match gt σ.h k with
 |some (.vec _ _ _ _)=>kJ cs|_=>cs
def KH(T:Tb)(σ:Sg)(t:TypeId)(p u:U):Option (U×Sg):=
 match p with
 |.ptr k st off=>(match bJ T t with
  |none=>none|some n=>match o0 u with
   |none=>none|some cs=>cond (Nat.beq cs.length n) (cond (okL cs) (match cellsOf σ k st with
    |some l=>(match jW l off (uO σ k cs)with
     |some l'=>(match B3 σ k l' with
      |some σ'=>some (.junk,σ')|none=>none)
     |none=>none)
    |none=>none) none) none)
 |_=>none
def lX(z:List U)(n:Nat):List U:=(List.replicate n z).flatten
def U5(T:Tb)(σ:Sg)(t:TypeId)(l c:U):Option (U×Sg):=
 match T.und t,l,c with
 |some (.slice e),.int _ a,.int _ b=>(match T.inf e with
  |some (sz,by_,z)=>(match jF z.cells.toList with
   |some zu=>cond (okL zu) (cond (Nat.beq z.cells.toList.length sz) (if 0<=a/\a<=b/\by_*b.toNat<=281474976710656/\b<=281474976710656 then
     some (.sl σ.nx 0 a.toNat b.toNat,newU σ (.row (lX (kJ zu) b.toNat) e))else none) none) none
   |none=>none)
  |none=>none)
 |_,_,_=>none
def Mp(T:Tb)(σ:Sg)(t:TypeId)(x:U):Option (U×Sg):=
 match T.und t with
 |some (.slice e)=>(match T.inf e with
  |some (sz,_,z)=>(match jF z.cells.toList with
   |some zu=>cond (okL zu) (cond (Nat.beq z.cells.toList.length sz) (match x with
    |.vl k st off n=>(match iU σ k st with
     |some (l,e',sz')=>cond (Nat.beq sz' sz) (if n=0 then some (.junk,σ)else(match jW l (off*sz) (lX (kJ zu) n)with
      |some l'=>some (.junk,⟨ug σ.h k (.vec l' e' sz' st),σ.nx⟩)|none=>none)) none
     |none=>none)
    |.nils=>some (.junk,σ)|_=>none) none) none
   |none=>none)
  |none=>none)
 |_=>none
def VV(T:Tb)(σ:Sg)(t:TypeId)(n:Nat)(ps:List (Nat×U)):Option (U×Sg):=
 match T.und t with
 |some (.slice e)=>(match T.inf e with
  |some (sz,_,z)=>cond (Nat.ble (n*sz) 16777216) (cond (Nat.ble n 16777216) (cond (Nat.beq z.cells.toList.length sz) (match jF z.cells.toList with
   |none=>none|some zu=>match lH (fun i=>some (i*sz,sz)) (lX zu n) ps with
    |some cs=>cond (okL cs) (some (.sl σ.nx 0 n n,newU σ (.row cs e))) none|none=>none) none) none) none
  |none=>none)
 |_=>none
def IL(es:List ME)(i:Nat)(f:ME->ME):List ME:=match es,i with
 |[],_=>[]|e::es,0=>f e::es
 |e::es,i+1=>e::IL es i f
def U9(b:Int):List ME->Nat->Option Nat
 |[],_=>none|e::es,i=>cond (decide ((e.born:Int)=b)) (some i) (U9 b es (i+1))
def Q5(es:List ME)(i:Nat):List ME:=match es,i with
 |[],_=>[]|_::es,0=>es
 |e::es,i+1=>e::Q5 es i
def D1(σ:Sg)(r:Nat)(es:List ME)(cl:Nat):Sg:=⟨ug σ.h r (.map es cl),σ.nx⟩
def Cl(T:Tb)(σ:Sg)(t:TypeId)(m k v:U):Option (U×Sg):=
 match T.und t,m with
 |some (.map kt _),.map r=>(match toV k with
  |none=>none|some kv=>cond (jX T 50 kt kv) (cond (plain kv) (match gt σ.h r with
   |some (.map es cl)=>(match tG T kt kv es 0 with
    |none=>none|some none=>some (.junk,D1 σ r (es++[{ key:=k,val:=v,born:=cl }]) (cl+1))
    |some (some (i,_))=>match nth es i with
     |none=>none|some e=>match toV e.key with
      |none=>none|some kv'=>cond (rO 50 kv' kv) (some (.junk,D1 σ r (IL es i fun e=>{ e with val:=v }) cl)) none)
   |_=>none) none) none)
 |_,_=>none
def Ns(T:Tb)(σ:Sg)(t:TypeId)(m k:U):Option (U×Sg):=
 match T.und t,m with
 |some (.map kt et),.map r=>(match toV k with
  |none=>none|some kv=>cond (jX T 50 kt kv) (cond (plain kv) (match gt σ.h r with
   |some (.map es cl)=>(match tG T kt kv es 0 with
    |none=>none|some none=>(match T.inf et with
     |none=>none|some (_,_,z)=>match eT z with
      |none=>none|some zu=>some (.tup [zu,.int .i64 cl],D1 σ r (es++[{ key:=k,val:=zu,born:=cl }]) (cl+1)))
    |some (some (i,v))=>match nth es i with
     |none=>none|some e=>match toV e.key with
      |none=>none|some kv'=>cond (rO 50 kv' kv) (some (.tup [v,.int .i64 e.born],D1 σ r es cl)) none)
   |_=>none) none) none)
 |_,_=>none
def Ml(σ:Sg)(m st v:U):Option (U×Sg):=
 match m,st with
 |.map r,.int _ b=>(match gt σ.h r with
  |some (.map es cl)=>(match U9 b es 0 with
   |none=>none|some i=>some (.junk,D1 σ r (IL es i fun e=>{ e with val:=v }) cl))
  |_=>none)
 |_,_=>none
def OB(T:Tb)(σ:Sg)(t:TypeId)(m k:U):Option (U×Sg):=
 match T.und t,m with
 |some (.map kt _),.map r=>(match toV k with
  |none=>none|some kv=>cond (jX T 50 kt kv) (match gt σ.h r with
   |some (.map es cl)=>(match tG T kt kv es 0 with
    |none=>none|some none=>some (.junk,D1 σ r es cl)
    |some (some (i,_))=>some (.junk,D1 σ r (Q5 es i) cl))
   |_=>none) none)
 |_,_=>none
def jN(T:Tb)(σ:Sg)(tm:List U)(op:Op):Option (U×Sg):=
 match op with
 |.alloc e=>(match T.inf e with
  |some (_,_,z)=>(match jF z.cells.toList with
   |some zu=>cond (okL zu) (some (.ptr σ.nx 0 0,newU σ (.row zu e))) none|none=>none)
  |none=>none)
 |.box e x=>(match bD tm x with
  |some u=>(match o0 u with
   |some cs=>cond (okL cs) (some (.ptr σ.nx 0 0,newU σ (.row cs e))) none|none=>none)
  |none=>none)
 |.store t a x=>(match bD tm a,bD tm x with
  |some p,some v=>KH T σ t p v|_,_=>none)
 |.buildSlice t n ps=>(match pQ tm ps.toList with
  |some qs=>VV T σ t n qs|none=>none)
 |.makeSlice t l c=>(match bD tm l,bD tm c with
  |some a,some b=>U5 T σ t a b|_,_=>none)
 |.makeMap _ none=>some (.map σ.nx,newU σ (.map [] 0))|.mapUpdate t m k x=>(match bD tm m,bD tm k,bD tm x with
  |some a,some b,some v=>Cl T σ t a b v|_,_,_=>none)
 |.insert t m k x=>(match bD tm m,bD tm k,bD tm x with
  |some a,some b,some v=>Cl T σ t a b v|_,_,_=>none)
 |.mapEntry t m k=>(match bD tm m,bD tm k with
  |some a,some b=>Ns T σ t a b|_,_=>none)
 |.entryStore _ m st x=>(match bD tm m,bD tm st,bD tm x with
  |some a,some b,some v=>Ml σ a b v|_,_,_=>none)
 |.call c=>(match c.callee with
  |.builtin .append=>(match iC tm c.args.toList,c.argTypes.toList with
   |some [a,b],[t,xt]=>Ec T σ t xt a b|_,_=>none)
  |.builtin .copy=>(match iC tm c.args.toList,c.argTypes.toList with
   |some [a,b],t::_=>Kj T σ t a b|_,_=>none)
  |.builtin .delete=>(match iC tm c.args.toList,c.argTypes.toList with
   |some [a,b],t::_=>OB T σ t a b|_,_=>none)
  |.builtin .clear=>(match iC tm c.args.toList,c.argTypes.toList with
   |some [a],t::_=>Mp T σ t a|_,_=>none)
  |_=>none)
 |_=>none
def aV(T:Tb)(σ:Sg)(tm:List U)(op:Op):Option (U×Sg):=
 match eH T σ tm op with
 |some v=>some (v,σ)|none=>match kN T σ tm op with
  |some v=>some (v,σ)|none=>jN T σ tm op
def fQ(T:Tb)(tm:List U)(op:Op):Option (FuncId×List U):=
 match op with
 |.call c=>(match c.callee with
  |.value f=>(match bD tm f with
   |some (.fn (.func g) first cap)=>(match T.fn g with
    |some fn=>cond fn.body.isSome (match iC tm c.args.toList with
     |some args=>some (g,first++args++cap)|none=>none) none
    |none=>none)
   |_=>none)
  |_=>none)
 |_=>none
end Go.Vx
namespace Go.Vx
open Go Go.Rx
mutual
theorem oN:(u:U)->(v:Value)->toV u=some v->∀(x:Cx)(v':Value),aA x u v'↔v'=v
 |.bool b,v,h,x,v'=>by simp only[toV,zA]at h;subst h;simp[aA]
 |.int k n,v,h,x,v'=>by simp only[toV,zA]at h;subst h;simp[aA]
 |.str l,v,h,x,v'=>by simp only[toV,zA]at h;subst h;simp[aA]
 |.nilp,v,h,x,v'=>by simp only[toV,zA]at h;subst h;simp[aA]
 |.nils,v,h,x,v'=>by simp only[toV,zA]at h;subst h;simp[aA]
 |.nilm,v,h,x,v'=>by simp only[toV,zA]at h;subst h;simp[aA]
 |.nilf,v,h,x,v'=>by simp only[toV,zA]at h;subst h;simp[aA]
 |.nili,v,h,x,v'=>by simp only[toV,zA]at h;subst h;simp[aA]
 |.agg l,v,h,x,v'=>by simp only[toV]at h;rcases hk:okL l with _|_;simp[hk]at h;simp only[hk,zC]at h;rcases hl:j0 l with _|vs;simp[hl]at h;simp only[hl,zA]at h;subst h;have:=QK l vs hl x;simp only[aA,hk,and_true];constructor;rintro⟨ws,rfl,h1,h2⟩;rw[(this ws).1 ⟨h1,h2⟩];rintro rfl;exact⟨vs,rfl,((this vs).2 rfl).1,((this vs).2 rfl).2⟩
 |.junk,v,h,x,v'=>by simp[toV]at h
 |.ptr _ _ _,v,h,x,v'=>by simp[toV]at h
 |.iptr _,v,h,x,v'=>by simp[toV]at h
 |.sl _ _ _ _,v,h,x,v'=>by simp[toV]at h
 |.vl _ _ _ _,v,h,x,v'=>by simp[toV]at h
 |.isl _ _,v,h,x,v'=>by simp[toV]at h
 |.map _,v,h,x,v'=>by simp[toV]at h
 |.fn _ _ _,v,h,x,v'=>by simp[toV]at h
 |.tup _,v,h,x,v'=>by simp[toV]at h
theorem QK:(l:List U)->(vs:List Value)->j0 l=some vs->∀(x:Cx)(ws:List Value),aQ x l ws↔ws=vs
 |[],vs,h,x,ws=>by simp only[j0,zA]at h;subst h;exact⟨fun h=>h.nil_inv,fun h=>h ▸ aQ.nil x⟩
 |u::l,vs,h,x,ws=>by simp only[j0]at h;rcases hu:toV u with _|v;simp[hu]at h;rcases hl:j0 l with _|vs';simp[hu,hl]at h;simp only[hu,hl,zA]at h;subst h;constructor;intro hr;obtain⟨w,ws',rfl,h1,h2⟩:=hr.inv;rw[(oN u v hu x w).1 h1,(QK l vs' hl x ws').1 h2];rintro rfl;exact aQ.cons ((oN u v hu x v).2 rfl) ((QK l vs' hl x vs').2 rfl)
end
mutual
theorem B7:(v:Value)->(u:U)->eT v=some u->plain v=true/\∀x:Cx,aA x u v
 |.bool b,u,h=>by simp only[eT,zA]at h;subst h;simp[aA,plain]
 |.int k n,u,h=>by simp only[eT,zA]at h;subst h;simp[aA,plain]
 |.string s,u,h=>by simp only[eT,zA]at h;subst h;simp[aA,plain]
 |.pointer none,u,h=>by simp only[eT,zA]at h;subst h;simp[aA,plain]
 |.slice none n c,u,h=>by simp only[eT]at h;split at h;simp only[zA]at h;subst h;simp[aA,plain];cases h
 |.map none,u,h=>by simp only[eT,zA]at h;subst h;simp[aA,plain]
 |.nilFunc,u,h=>by simp only[eT,zA]at h;subst h;simp[aA,plain]
 |.nilIface,u,h=>by simp only[eT,zA]at h;subst h;simp[aA,plain]
 |.agg ⟨l⟩,u,h=>by simp only[eT]at h;rcases hl:jF l with _|us;simp[hl]at h;simp only[hl]at h;rcases hk:okL us with _|_;simp[hk]at h;simp only[hk,zC,zA]at h;subst h;obtain⟨h1,h2⟩:=D0 l us hl;exact⟨by simp[plain,h1],fun x=>by simp only[aA];exact⟨l,rfl,(h2 x).1,(h2 x).2,hk⟩⟩
 |.float _ _,u,h=>by simp[eT]at h
 |.complex _ _ _,u,h=>by simp[eT]at h
 |.pointer (some _),u,h=>by simp[eT]at h
 |.slice (some _) _ _,u,h=>by simp[eT]at h
 |.map (some _),u,h=>by simp[eT]at h
 |.chan _,u,h=>by simp[eT]at h
 |.func _ _ _,u,h=>by simp[eT]at h
 |.iface _ _,u,h=>by simp[eT]at h
 |.tuple _,u,h=>by simp[eT]at h
theorem D0:(l:List Value)->(us:List U)->jF l=some us->FH l=true/\∀x:Cx,aQ x us l
 |[],us,h=>by simp only[jF,zA]at h;subst h;exact⟨by simp[FH],fun x=>aQ.nil x⟩
 |v::l,us,h=>by simp only[jF]at h;rcases hv:eT v with _|u;simp[hv]at h;rcases hl:jF l with _|us';simp[hv,hl]at h;simp only[hv,hl,zA]at h;subst h;obtain⟨h1,h2⟩:=B7 v u hv;obtain⟨h3,h4⟩:=D0 l us' hl;exact⟨by simp[FH,h1,h3],fun x=>aQ.cons (h2 x) (h4 x)⟩
end
section
variable{x:Cx}{tm:List U}{tv:List Value}(ht:aQ x tm tv)
include ht
theorem dP{o:Operand}{u:U}(h:bD tm o=some u):∃v,evalO tv o=some v/\aA x u v:=by
 cases o with
 |tmp t=>simp only[bD,eR]at h;obtain⟨v,h1,h2⟩:=ht.get h;exact⟨v,by simp[evalO,eR,h1],h2⟩
 |const v=>obtain⟨h1,h2⟩:=B7 v u h;exact⟨v,by simp[evalO,h1],h2 x⟩
 |func f=>simp only[bD,zA]at h;subst h;exact⟨_,rfl,by simp only[aA];exact⟨[],[],rfl,by simp[bN],rfl,by simp[bN],rfl⟩⟩|global g=>simp[bD]at h
theorem DA{l:List Operand}{us:List U}(h:iC tm l=some us):∃vs,fX tv l=some vs/\aQ x us vs:=by
 induction l generalizing us with|nil=>simp only[iC,zA]at h;subst h;exact⟨[],rfl,aQ.nil x⟩|cons o l ih=>simp only[iC]at h;rcases h1:bD tm o with _|u;simp[h1]at h;rcases h2:iC tm l with _|us';simp[h1,h2]at h;simp only[h1,h2,zA]at h;subst h;obtain⟨v,e1,r1⟩:=dP ht h1;obtain⟨vs,e2,r2⟩:=ih h2;exact⟨v::vs,by simp[fX,e1,e2],aQ.cons r1 r2⟩
inductive KG(x:Cx):List (Nat×U)->List (Nat×Value)->Prop
 |nil:KG x [] []
 |cons {i:Nat} {u:U} {v:Value} {l:List (Nat×U)} {m:List (Nat×Value)}:aA x u v->KG x l m->KG x ((i,u)::l) ((i,v)::m)
theorem Pu{l:List (Nat×Operand)}{us:List (Nat×U)}(h:pQ tm l=some us):∃vs,wJ tv l=some vs/\KG x us vs:=by
 induction l generalizing us with|nil=>simp only[pQ,zA]at h;subst h;exact⟨[],rfl,.nil⟩|cons o l ih=>obtain⟨i,o⟩:=o;simp only[pQ]at h;rcases h1:bD tm o with _|u;simp[h1]at h;rcases h2:pQ tm l with _|us';simp[h1,h2]at h;simp only[h1,h2,zA]at h;subst h;obtain⟨v,e1,r1⟩:=dP ht h1;obtain⟨vs,e2,r2⟩:=ih h2;exact⟨(i,v)::vs,by simp[wJ,e1,e2],.cons r1 r2⟩
theorem Pv{o:Option Operand}{r:Option Value}(h:nZ tm o=some r):kP tv o=some r:=by
 rcases o with _|o;simpa[nZ,kP]using h;simp only[nZ]at h;rcases h1:bD tm o with _|u;simp[h1]at h;obtain⟨v,e1,r1⟩:=dP ht h1;cases u with|int k n=>simp only[h1,zA]at h;simp only[aA]at r1;subst r1;subst h;simp[kP,e1]|_=>simp[h1]at h
end
variable{x:Cx}
variable{u:U}
variable{v:Value}
theorem H6{f:Value->Option Value}{r:U}(h:g1 f u=some r)(hr:aA x u v):∃rv,f v=some rv/\aA x r rv:=by
 unfold g1 at h;rcases h1:toV u with _|v0;simp[h1]at h;simp only[h1]at h;rcases h2:f v0 with _|rv;simp[h2]at h;simp only[h2]at h;rw[(oN u v0 h1 x v).1 hr];exact⟨rv,h2,(B7 rv r h).2 x⟩
theorem H5{f:Value->Value->Option Value}{a b r:U}{va vb:Value}(h:g2 f a b=some r)(ha:aA x a va)(hb:aA x b vb):∃rv,f va vb=some rv/\aA x r rv:=by
 unfold g2 at h;rcases h1:toV a with _|v1;simp[h1]at h;rcases h2:toV b with _|v2;simp[h1,h2]at h;simp only[h1,h2]at h;rcases h3:f v1 v2 with _|rv;simp[h3]at h;simp only[h3]at h;rw[(oN a v1 h1 x va).1 ha,(oN b v2 h2 x vb).1 hb];exact⟨rv,h3,(B7 rv r h).2 x⟩
theorem zh(hr:aA x u v)(hn:okC u=true):v.oneCell'=true:=by
 cases u with
 |junk=>simp[okC]at hn|agg l=>simp[okC]at hn
 |tup l=>simp[okC]at hn|ptr k st off=>simp only[aA]at hr;exact hr.1
 |sl k off n c=>simp only[aA]at hr;exact hr.1|vl k st off n=>simp only[aA]at hr;exact hr.1
 |map k=>simp only[aA]at hr;exact hr.1|iptr l=>simp only[aA]at hr;obtain⟨_,_,_,_,rfl,_⟩:=hr;rfl
 |isl t l=>simp only[aA]at hr;rcases hr with⟨_,rfl |⟨_,rfl⟩⟩|⟨_,_,_,rfl,_⟩<;>rfl
 |fn f a b=>simp only[aA]at hr;obtain⟨_,_,rfl,_⟩:=hr;rfl
 |_=>simp only[aA]at hr;subst hr;rfl
variable{l:List U}
variable{vs:List Value}
theorem FZ(hr:aQ x l vs)(hk:okL l=true):lI vs=true:=by
 induction l generalizing vs with|nil=>rw[hr.nil_inv];rfl|cons u l ih=>obtain⟨v,vs',rfl,h1,h2⟩:=hr.inv;simp only[okL]at hk;obtain⟨k1,k2⟩:=BN hk;simp[lI,zh h1 k1,ih h2 k2]
theorem Pw{cs:List U}(hr:aA x u v)(h:o0 u=some cs):aQ x cs v.cells.toList/\okL cs=true:=by
 have one:okC u=true->cs=[u]->aQ x cs v.cells.toList/\okL cs=true:=fun h1 h2=>by
  subst h2;have:=zh hr h1;have e:v.cells= #[v]:=by cases v<;>first |rfl |(simp[Value.oneCell']at this)
  rw[e];exact⟨aQ.cons hr (aQ.nil x),by simp[okL,h1]⟩
 cases u with
 |junk=>simp[o0]at h|tup l=>simp[o0]at h
 |agg l=>simp only[o0,zA]at h;subst h;simp only[aA]at hr;obtain⟨vs,rfl,h1,h2,h3⟩:=hr;exact⟨⟨h1,h2⟩,h3⟩
 |_=>simp only[o0,zA]at h;exact one rfl h.symm
theorem yd(h:aA x u v):aA x (SP u) v:=by
 cases u with
 |nils=>simp only[SP,aA]at*;exact .inl ⟨trivial,.inl h⟩|isl t l=>simp only[SP,aA]at*;rcases h with h |⟨i,off,c,h1,h2,h3⟩;exact .inl h;exact .inr ⟨i,off,c,h1,(fun h=>by cases h),h3⟩
 |_=>exact h
theorem IV(u:U):okC (SP u)=okC u:=by cases u<;>rfl
theorem Cz:∀l:List U,(kJ l).length=l.length
 |[]=>rfl|u::l=>by simp[kJ,Cz l]
theorem PM:∀l:List U,okL (kJ l)=okL l
 |[]=>rfl|u::l=>by simp[kJ,okL,IV,PM l]
theorem Ym{x:Cx}:∀{l:List U}{vs:List Value},bN x l vs->bN x (kJ l) vs
 |[],vs,h=>by simp[kJ,bN]
 |u::l,[],h=>by simp[bN]at h
 |u::l,v::vs,h=>by simp only[kJ,bN]at*;exact⟨yd h.1,Ym h.2⟩
theorem UR(h:aQ x l vs):aQ x (kJ l) vs:=⟨Ym h.1,by rw[Cz];exact h.2⟩
theorem ye{σ:Sg}{k:Nat}(h:aQ x l vs):aQ x (uO σ k l) vs:=by
 unfold uO;split;exact UR h;exact h
theorem IW(σ:Sg)(k:Nat)(l:List U):okL (uO σ k l)=okL l:=by
 unfold uO;split;exact PM l;rfl
structure Out(x y:Cx):Prop where
 h:eQ y
 mo:Mo x.σ.nx x y
 fr:∀F,Fr F x->Fr F y
def nc:uZ:=fun _ _ _=>none
def kH(T:Tb)(x:Cx)(tv:List Value)(op:Op)(u:U)(σ':Sg):Prop:=∃v y,pV T nc tv x.s op=some (v,y.s)/\y.σ=σ'/\aA y u v/\Out x y
theorem Mo.refl(n:Nat)(x:Cx):Mo n x x:=⟨fun k _ h2=>⟨h2,fun b hb=>⟨b,hb,zF _,fun _=>⟨rfl,fun l e sz st h=>⟨l,h⟩⟩⟩⟩,fun _ _ _ h=>h⟩
theorem Out.refl{x:Cx}(h:eQ x):Out x x:=⟨h,Mo.refl _ _,fun _ h=>h⟩
variable{T:Tb}
variable{tv:List Value}
variable{op:Op}
theorem kH.same(hx:eQ x)(h:pV T nc tv x.s op=some (v,x.s))(hr:aA x u v):kH T x tv op u x.σ:=⟨v,x,h,rfl,hr,Out.refl hx⟩
variable{call:uZ}
variable{s:S}
theorem sg(h:eF T tv op=some v):pV T call tv s op=some (v,s):=by simp[pV,h]
theorem VF(h0:eF T tv op=none)(h:iV T tv s op=some v):pV T call tv s op=some (v,s):=by simp[pV,h,h0]
theorem Zn{r:Value×S}(h0:eF T tv op=none)(h1:iV T tv s op=none)(h:lW T tv s op=some r):pV T call tv s op=some r:=by simp[pV,h,h0,h1]
def bump(x:Cx):Cx:=⟨x.ρ,x.σ,⟨x.s.h,x.s.nx+1⟩⟩
theorem Nz(n:Nat)(x:Cx):Mo n x (bump x):=⟨fun k _ h2=>⟨h2,fun b hb=>⟨b,hb,zF _,fun _=>⟨rfl,fun l e sz st h=>⟨l,h⟩⟩⟩⟩,fun _ _ _ h=>h⟩
theorem Pb(h:aA x u v):aA (bump x) u v:=(Nz x.σ.nx x).ke u v (aA.bel u v h) h
theorem I8(h:aQ x l vs):aQ (bump x) l vs:=(Nz x.σ.nx x).ke.E h.bel h
theorem bc(h:eQ x):Out x (bump x):=by
 refine⟨⟨fun k b hb=>?_,h.inj,fun i b hb=>Nat.lt_succ_of_lt (h.bd i b hb)⟩,Nz _ _,fun F J=>J⟩;obtain⟨h1,h2⟩:=h.ok k b hb;refine⟨h1,?_⟩;cases b with
 |row l e=>obtain⟨k1,i,l',e1,e2,e3⟩:=h2;exact⟨k1,i,l',e1,e2,I8 e3⟩
 |vec l e sz st=>obtain⟨k1,k2,h3⟩:=h2;refine⟨k1,k2,?_⟩;rcases h3 with h3 |⟨i,l',e1,e2,e3⟩;exact .inl h3;exact .inr ⟨i,l',e1,e2,I8 e3⟩
 |map es cl=>obtain⟨i,es',e1,e2,e3⟩:=h2;refine⟨i,es',e1,e2,e3.1,fun j e he=>?_⟩;obtain⟨v,q1,q2,q3,q4⟩:=e3.2 j e he;exact⟨v,q1,Pb q2,Pb q3,q4⟩
end Go.Vx
namespace Go.Vx
open Go Go.Rx
variable{l:List Value}
variable{n:Nat}
theorem uh(h:n<=l.length):wE l n=some (l.take n):=by
 induction l generalizing n with
 |nil=>simp at h;subst h;simp[wE]|cons a l ih=>cases n with
  |zero=>simp[wE]|succ n=>simp[wE,ih (by simpa using h)]
variable{off:Nat}
theorem UE(h:off+n<=l.length):nS l off n=some ((l.drop off).take n):=uh (by simp;omega)
variable{vs:List Value}
theorem yy(h:vs.length<=l.length):uS l vs=some (vs++l.drop vs.length):=by
 induction vs generalizing l with
 |nil=>simp[uS]|cons v vs ih=>cases l with
  |nil=>simp at h|cons a l=>simp[uS,ih (by simpa using h)]
theorem yx(h:off+vs.length<=l.length):lV l off vs=some (l.take off++(vs++l.drop (off+vs.length))):=by
 induction l generalizing off with
 |nil=>simp at h;obtain⟨rfl,rfl⟩:=h;simp[lV,uS]
 |cons a l ih=>cases off with
  |zero=>simp only[lV,Nat.zero_add]at*;rw[yy h];simp|succ off=>simp[lV,ih (off:=off) (by simp at h;omega),Nat.succ_add]
variable{l:List U}
theorem FT(h:okL l=true)(n:Nat):okL (l.take n)=true:=(BC _).2 fun u hu=>(BC l).1 h u (List.mem_of_mem_take hu)
theorem vB(h:okL l=true)(n:Nat):okL (l.drop n)=true:=(BC _).2 fun u hu=>(BC l).1 h u (List.mem_of_mem_drop hu)
theorem DC{a b:List U}(h:okL a=true)(h':okL b=true):okL (a++b)=true:=(BC _).2 fun u hu=>(yD.1 hu).elim ((BC a).1 h u) ((BC b).1 h' u)
variable{r:List U}
theorem FY(h:fI l off n=some r):off+n<=l.length/\r=(l.drop off).take n:=by
 unfold fI at h;split at h;simp at h;exact⟨by assumption,h.symm⟩;cases h
theorem zf{vs:List U}(h:jW l off vs=some r):off+vs.length<=l.length/\r=l.take off++(vs++l.drop (off+vs.length)):=by
 unfold jW at h;split at h;simp at h;exact⟨by assumption,h.symm⟩;cases h
variable{x:Cx}
theorem De{vs:List U}{lv vv:List Value}(h:jW l off vs=some r)(hl:aQ x l lv)(hv:aQ x vs vv):∃rv,lV lv off vv=some rv/\aQ x r rv/\(okL l=true->okL vs=true->okL r=true):=by
 obtain⟨h1,rfl⟩:=zf h;refine⟨_,yx (by rw[<-hl.2,<-hv.2];exact h1),?_,fun a b=>DC (FT a _) (DC b (vB a _))⟩;rw[<-hv.2];exact(hl.take _).append (hv.append (hl.drop _))
theorem Xa{lv:List Value}(h:fI l off n=some r)(hl:aQ x l lv):nS lv off n=some ((lv.drop off).take n)/\aQ x r ((lv.drop off).take n):=by
 obtain⟨h1,rfl⟩:=FY h;exact⟨UE (by rw[<-hl.2];exact h1),(hl.drop _).take _⟩
theorem VO{x:Cx}{place:Nat->Option (Nat×Nat)}:∀{ps:List (Nat×U)}{pv:List (Nat×Value)}{cells r:List U}{cv:List Value},KG x ps pv->aQ x cells cv->lH place cells ps=some r->∃rv,tH place cv pv=some rv/\aQ x r rv
 |_,_,cells,r,cv,.nil,hc,h=>by simp only[lH,zA]at h;subst h;exact⟨cv,rfl,hc⟩
 |_,_,cells,r,cv,.cons (i:=i) (u:=u) (v:=v) (l:=l) (m:=m) hu hp,hc,h=>by simp only[lH]at h;rcases h1:place i with _|q;simp[h1]at h;obtain⟨off,size⟩:=q;simp only[h1]at h;rcases h2:o0 u with _|cs;simp[h2]at h;simp only[h2]at h;obtain⟨c1,c2⟩:=Pw hu h2;rcases h3:Nat.beq cs.length size with _|_;simp[h3]at h;simp only[h3,zC]at h;rcases h4:jW cells off cs with _|c;simp[h4]at h;simp only[h4]at h;obtain⟨rv,q1,q2,_⟩:=De h4 hc c1;obtain⟨rv',q3,q4⟩:=VO hp q2 h;exact⟨rv',by simp only[tH,h1];rw[<-c1.2,h3];simp only[zC,q1,q3],q4⟩
variable{T:Tb}
variable{t:TypeId}
variable{u:U}
theorem Ze{cs:List U}(h:Bk T t cs off=some u)(hc:aQ x cs vs)(hk:okL cs=true):∃v,uX T t vs off=some v/\aA x u v:=by
 unfold Bk at h;unfold uX;rcases hd:T.und t with _|d;simp[hd]at h;simp only[hd]at h ⊢;cases ha:kQ d with
 |true=>simp only[ha,zC]at h ⊢;rcases hs:bJ T t with _|n;simp[hs]at h;simp only[hs,zA]at h ⊢;subst h;refine⟨_,rfl,?_⟩;simp only[aA];exact⟨_,rfl,((hc.drop off).take n).1,((hc.drop off).take n).2,FT (vB hk _) _⟩
 |false=>simp only[ha,zD,eR]at h ⊢;exact hc.get h
theorem f'{ps:List (Nat×U)}{pv:List (Nat×Value)}(h:Q6 T t ps=some u)(hp:KG x ps pv):∃v,UP T t pv=some v/\aA x u v:=by
 unfold Q6 at h;unfold UP;rcases hi:T.inf t with _|q;simp[hi]at h;obtain⟨a,b,z⟩:=q;simp only[hi]at h ⊢;rcases hz:jF z.cells.toList with _|zu;simp[hz]at h;simp only[hz]at h;have hzr:=(D0 _ _ hz).2 x;rcases hd:T.und t with _|d;simp[hd]at h;cases d with
 |struct fs=>simp only[hd]at h ⊢;rcases hs:wM T fs.toList with _|_;simp[hs]at h;simp only[hs,zC]at h ⊢;rcases hf:lH (BG T fs.toList) zu ps with _|cs;simp[hf]at h;simp only[hf]at h;rcases hk:okL cs with _|_;simp[hk]at h;simp only[hk,zC,zA]at h;subst h;obtain⟨rv,q1,q2⟩:=VO hp hzr hf;exact⟨.agg rv.toArray,by simp[q1],by simp only[aA];exact⟨rv,rfl,q2.1,q2.2,hk⟩⟩
 |array n e=>simp only[hd]at h ⊢;rcases hs:bJ T e with _|sz;simp[hs]at h;simp only[hs]at h ⊢;rcases hf:lH (fun i=>some (i*sz,sz)) zu ps with _|cs;simp[hf]at h;simp only[hf]at h;rcases hk:okL cs with _|_;simp[hk]at h;simp only[hk,zC,zA]at h;subst h;obtain⟨rv,q1,q2⟩:=VO hp hzr hf;exact⟨.agg rv.toArray,by simp[q1],by simp only[aA];exact⟨rv,rfl,q2.1,q2.2,hk⟩⟩
 |_=>simp[hd]at h
variable{σ:Sg}
variable{k:Nat}
theorem VW{st:Nat}(h:live σ k st=true):∃b,gt σ.h k=some b/\b.st=st:=by
 unfold live at h;rcases hb:gt σ.h k with _|b;simp[hb]at h;simp only[hb,beq_eq,decide_eq_true_eq]at h;exact⟨b,rfl,h⟩
variable{v:Value}
theorem KU{st:Nat}(hl:live x.σ k st=true)(hr:aA x (.ptr k st off) v):∃i,x.ρ k=some i/\v=.pointer (some ⟨i,off,none⟩):=by
 obtain⟨b,h1,h2⟩:=VW hl;simp only[aA]at hr;exact((hr.2.2 b h1).2 h2.symm)
theorem D2{c:Nat}(hl:live x.σ k 0=true)(hr:aA x (.sl k off n c) v):∃i,x.ρ k=some i/\v=.slice (some ⟨i,off,none⟩) n c/\c<b7/\n<=c:=by
 obtain⟨b,h1,h2⟩:=VW hl;simp only[aA]at hr;exact((hr.2.2 b h1).2 h2.symm)
theorem Du(hl:live x.σ k 0=true)(hr:aA x (.map k) v):∃i,x.ρ k=some i/\v=.map (some i):=by
 obtain⟨b,h1,h2⟩:=VW hl;simp only[aA]at hr;exact((hr.2.2 b h1).2 h2.symm)
theorem KP{st:Nat}(hl:live x.σ k st=true)(hr:aA x (.vl k st off n) v):∃l e sz,gt x.σ.h k=some (.vec l e sz st)/\wD off n v sz (x.ρ k):=by
 obtain⟨b,h1,h2⟩:=VW hl;simp only[aA]at hr;obtain⟨l,e,sz,rfl,h3⟩:=(hr.2.2 b h1).2 h2.symm;exact⟨l,e,sz,h1,h3⟩
theorem Eo{st:Nat}{r:List U×TypeId×Nat}(h:iU σ k st=some r):gt σ.h k=some (.vec r.1 r.2.1 r.2.2 st)/\live σ k st=true:=by
 unfold iU at h;rcases hb:gt σ.h k with _|b;simp[hb]at h;cases b with
 |vec l e sz st'=>simp only[hb,beq_eq]at h;by_cases hst:st'=st;subst hst;simp at h;subst h;exact⟨rfl,by simp[live,hb,B.st]⟩;simp[hst]at h|_=>simp[hb]at h
theorem Qb(h:rowOf σ k=some l):∃e,gt σ.h k=some (.row l e)/\live σ k 0=true:=by
 unfold rowOf at h;rcases hb:gt σ.h k with _|b;simp[hb]at h;cases b with
 |row l' e=>simp[hb]at h;subst h;exact⟨e,rfl,by simp[live,hb,B.st]⟩|_=>simp[hb]at h
theorem Lu{sz:Nat}{o:Option Nat}(h:wD off n v sz o):∃a c,v=.slice a n c:=by
 cases o with
 |none=>obtain⟨_,rfl,o,rfl,_⟩:=h;exact⟨o,0,rfl⟩
 |some i=>rcases h with⟨_,rfl,a,c,rfl,_⟩|rfl<;>exact⟨_,_,rfl⟩
theorem Oh(hx:eQ x){st:Nat}(hl:live x.σ k st=true)(hr:aA x (.vl k st off n) v)(hn:0<n):
  ∃i l e sz l',gt x.σ.h k=some (.vec l e sz st)/\x.ρ k=some i/\v=.slice (some ⟨i,off*sz,none⟩) n (b7+off)/\lk x.s.h i=some (.inl (l',e,sz+2))/\aQ x l l'/\0<sz/\okL l=true:=by
 obtain⟨l,e,sz,h1,h2⟩:=KP hl hr;obtain⟨_,k1,k2,h3⟩:=hx.ok k _ h1;rcases h3 with⟨_,h3⟩|⟨i,l',e1,e2,e3⟩;rw[h3]at h2;obtain⟨_,rfl,_⟩:=h2;omega;rw[e1]at h2;rcases h2 with⟨_,rfl,_⟩|h2;omega;exact⟨i,l,e,sz,l',h1,e1,h2,e2,e3,k2,k1⟩
theorem Yq(hx:eQ x)(hr:aA x u v)(h:dW x.σ u=k)(hk:k≠0):
  (k=1/\∃a,v=.pointer (some a))\/(k=2/\∃a n c,v=.slice (some a) n c)\/(k=3/\∃r,v=.map (some r)):=by
 cases u with
 |ptr k' st off=>simp only[dW]at h;rcases hl:live x.σ k' st with _|_;simp[hl]at h;omega;simp[hl]at h;obtain⟨i,_,rfl⟩:=KU hl hr;exact .inl ⟨h.symm,_,rfl⟩
 |iptr l=>simp only[dW]at h;simp only[aA]at hr;obtain⟨i,off,_,_,rfl,_⟩:=hr;exact .inl ⟨h.symm,_,rfl⟩
 |sl k' off n c=>simp only[dW]at h;rcases hl:live x.σ k' 0 with _|_;simp[hl]at h;omega;simp[hl]at h;obtain⟨i,_,rfl,_⟩:=D2 hl hr;exact .inr (.inl ⟨h.symm,_,_,_,rfl⟩)
 |vl k' st off n=>cases n with|zero=>simp[dW]at h;omega|succ n=>simp only[dW]at h;rcases hl:live x.σ k' st with _|_;simp[hl]at h;omega;simp[hl]at h;obtain⟨i,l,e,sz,l',_,_,rfl,_⟩:=Oh hx hl hr (Nat.succ_pos _);exact .inr (.inl ⟨h.symm,_,_,_,rfl⟩)
 |isl t l=>rcases l with _|⟨c,l⟩;simp[dW]at h;omega;simp only[dW]at h;simp only[aA]at hr;rcases hr with⟨hr,_⟩|⟨i,off,c',rfl,_⟩;cases hr;exact .inr (.inl ⟨h.symm,_,_,_,rfl⟩)
 |map k'=>simp only[dW]at h;rcases hl:live x.σ k' 0 with _|_;simp[hl]at h;omega;simp[hl]at h;obtain⟨i,_,rfl⟩:=Du hl hr;exact .inr (.inr ⟨h.symm,_,rfl⟩)
 |_=>simp[dW]at h;omega
theorem ww(hr:aA x u v)(h:BD u=k)(hk:k≠0):(k=1/\v=.pointer none)\/(k=2/\v=.slice none 0 0)\/(k=3/\v=.map none):=by
 cases u with
 |nilp=>simp only[BD]at h;simp only[aA]at hr;exact .inl ⟨h.symm,hr⟩|nils=>simp only[BD]at h;simp only[aA]at hr;exact .inr (.inl ⟨h.symm,hr⟩)
 |nilm=>simp only[BD]at h;simp only[aA]at hr;exact .inr (.inr ⟨h.symm,hr⟩)|_=>simp[BD]at h;omega
theorem ep(hx:eQ x){op:BinOp}{a b:U}{va vb:Value}(h:PU T x.σ op t a b=some u)(ha:aA x a va)(hb:aA x b vb):∃v,mN T op t va vb=some v/\aA x u v:=by
 unfold PU at h;simp only[beq_eq]at h;by_cases h0:pL T t=0;simp[h0]at h;simp only[h0,yB,zD]at h;have key:uH op=some u->
   (pL T t=1/\((∃p,va=.pointer (some p))/\vb=.pointer none\/va=.pointer none/\∃p,vb=.pointer (some p)))\/
   (pL T t=2/\((∃p n c,va=.slice (some p) n c)/\vb=.slice none 0 0\/va=.slice none 0 0/\∃p n c,vb=.slice (some p) n c))\/
   (pL T t=3/\((∃p,va=.map (some p))/\vb=.map none\/va=.map none/\∃p,vb=.map (some p)))->∃v,mN T op t va vb=some v/\aA x u v:=by
  intro hop hk;have hund:∀{k:Nat},pL T t=k->k≠0->(k=1->∃e,T.und t=some (.pointer e))/\(k=2->∃e,T.und t=some (.slice e))/\(k=3->∃e e',T.und t=some (.map e e')):=by intro k hk u9;unfold pL at hk;rcases hd:T.und t with _|d;simp[hd]at hk;omega;cases d<;>simp[hd]at hk<;>subst hk<;>simp at u9 ⊢
  rcases hk with⟨hk,hv⟩|⟨hk,hv⟩|⟨hk,hv⟩;obtain⟨e,he⟩:=(hund hk (by omega)).1 rfl;rcases hv with⟨⟨p,rfl⟩,rfl⟩|⟨rfl,p,rfl⟩<;>cases op<;>simp[uH]at hop<;>subst hop<;>simp[mN,sC,eqv,he,aA];obtain⟨e,he⟩:=(hund hk (by omega)).2.1 rfl;rcases hv with⟨⟨p,n,c,rfl⟩,rfl⟩|⟨rfl,p,n,c,rfl⟩<;>cases op<;>simp[uH]at hop<;>subst hop<;>simp[mN,sC,eqv,he,aA];obtain⟨e,e',he⟩:=(hund hk (by omega)).2.2 rfl;rcases hv with⟨⟨p,rfl⟩,rfl⟩|⟨rfl,p,rfl⟩<;>cases op<;>simp[uH]at hop<;>subst hop<;>simp[mN,sC,eqv,he,aA]
 by_cases h1:dW x.σ a=pL T t;by_cases h2:BD b=pL T t;simp only[h1,h2,yC,zC]at h;refine key h ?_;rcases Yq hx ha h1 h0 with⟨e1,q⟩|⟨e1,q⟩|⟨e1,q⟩<;>rcases ww hb h2 h0 with⟨e2,q'⟩|⟨e2,q'⟩|⟨e2,q'⟩<;>first |omega |skip
 exact .inl ⟨e1,.inl ⟨q,q'⟩⟩;exact .inr (.inl ⟨e1,.inl ⟨q,q'⟩⟩);exact .inr (.inr ⟨e1,.inl ⟨q,q'⟩⟩);simp[h1,h2]at h;simp only[h1,yB,zD]at h;by_cases h2:BD a=pL T t;by_cases h3:dW x.σ b=pL T t;simp only[h2,h3,yC,zC]at h;refine key h ?_;rcases Yq hx hb h3 h0 with⟨e1,q⟩|⟨e1,q⟩|⟨e1,q⟩<;>rcases ww ha h2 h0 with⟨e2,q'⟩|⟨e2,q'⟩|⟨e2,q'⟩<;>first |omega |skip
 exact .inl ⟨e1,.inr ⟨q',q⟩⟩;exact .inr (.inl ⟨e1,.inr ⟨q',q⟩⟩);exact .inr (.inr ⟨e1,.inr ⟨q',q⟩⟩);simp[h2,h3]at h;simp[h2]at h
theorem uc(hx:eQ x){op:BinOp}{a b:U}{va vb:Value}(h:A4 T x.σ op t a b=some u)(ha:aA x a va)(hb:aA x b vb):∃v,mN T op t va vb=some v/\aA x u v:=by
 unfold A4 at h;rcases h1:g2 (mN T op t) a b with _|r;simp only[h1]at h;exact ep hx h ha hb;simp only[h1,zA]at h;subst h;exact H5 h1 ha hb
variable{v:Value}
variable{n:Nat}
theorem tP{y y':Nat}(h:eS v y=some n)(hy:y<=y'):eS v y'=some n/\n<=y:=by
 unfold eS at*;cases v with
 |int k i=>
  simp only at*;rcases h1:kG i (y+1)with _|_;simp[h1]at h;simp only[h1,zC,zA]at h;obtain⟨a,b⟩:=KV h1;have:kG i (y'+1)=true:=by
   unfold kG;cases i with
   |ofNat k=>simp at b ⊢;omega|negSucc k=>omega
  exact⟨by simp[this,h],by omega⟩
 |_=>simp at h
variable{c:Nat}
variable{lo:Option Value}
variable{hi:Option Value}
variable{l:Nat}
variable{h:Nat}
variable{m:Nat}
theorem FW(hb:dN n n lo hi none=some (l,h,m))(hc:n<=c):dN n c lo hi none=some (l,h,c)/\l<=h/\h<=n/\m=n:=by
 unfold dN at*;simp only at*;cases hi with
 |none=>
  simp only at*;cases lo with
  |none=>simp only[zA,zB]at hb ⊢;obtain⟨rfl,rfl,rfl⟩:=hb;simp
  |some v=>simp only at*;rcases h1:eS v n with _|k;simp[h1]at hb;simp only[h1,zA,zB]at hb ⊢;obtain⟨rfl,rfl,rfl⟩:=hb;simp[(tP h1 (zF _)).2]
 |some w=>
  simp only at*;rcases h2:eS w n with _|k2;simp[h2]at hb;obtain⟨e2,e3⟩:=tP h2 hc;simp only[h2,e2]at hb ⊢;cases lo with
  |none=>simp only[zA,zB]at hb ⊢;obtain⟨rfl,rfl,rfl⟩:=hb;simp[e3]
  |some v=>simp only at*;rcases h1:eS v k2 with _|k;simp[h1]at hb;simp only[h1,zA,zB]at hb ⊢;obtain⟨rfl,rfl,rfl⟩:=hb;simp[(tP h1 (zF _)).2,e3]
theorem VR{vm:Value}(hb:dN n n lo hi (some vm)=some (l,h,m)):eS vm n=some m/\l<=h/\h<=m/\m<=n/\∀c,m<=c->dN n c lo hi (some vm)=some (l,h,m):=by
 unfold dN at*;simp only at*;rcases h0:eS vm n with _|k0;simp[h0]at hb;simp only[h0]at hb;have e0:=(tP h0 (zF _)).2;have grow:∀c,k0<=c->eS vm c=some k0:=fun c hc=>by
  unfold eS at*;cases vm with
  |int k i=>
   simp only at*;rcases h1:kG i (n+1)with _|_;simp[h1]at h0;simp only[h1,zC,zA]at h0;obtain⟨a,b⟩:=KV h1;have:kG i (c+1)=true:=by
    unfold kG;cases i with
    |ofNat k=>simp at h0 ⊢;omega|negSucc k=>omega
   simp[this,h0]
  |_=>simp at h0
 rcases hi with _|w;simp at hb;simp only at*;rcases h2:eS w k0 with _|k2;simp[h2]at hb;have e3:=(tP h2 (zF _)).2;simp only[h2]at hb;cases lo with
 |none=>simp only[zA,zB]at hb;obtain⟨rfl,rfl,rfl⟩:=hb;exact⟨rfl,by omega,e3,e0,fun c hc=>by simp[grow c hc,h2]⟩
 |some v=>simp only at*;rcases h1:eS v k2 with _|k;simp[h1]at hb;simp only[h1,zA,zB]at hb;obtain⟨rfl,rfl,rfl⟩:=hb;exact⟨rfl,(tP h1 (zF _)).2,e3,e0,fun c hc=>by simp[grow c hc,h2,h1]⟩
variable{mx:Option Value}
theorem bg(hb:dN n c lo hi mx=some (l,h,m)):l<=h/\m<=c:=by
 unfold dN at hb;cases mx with
 |none=>
  simp only at hb;cases hi with
  |none=>simp only at hb;rcases lo with _|v;simp only[zA,zB]at hb;omega;simp only at hb;rcases h1:eS v n with _|k;simp[h1]at hb;simp only[h1,zA,zB]at hb;have:=(tP h1 (zF _)).2;omega
  |some w=>simp only at hb;rcases h2:eS w c with _|k2;simp[h2]at hb;simp only[h2]at hb;rcases lo with _|v;simp only[zA,zB]at hb;omega;simp only at hb;rcases h1:eS v k2 with _|k;simp[h1]at hb;simp only[h1,zA,zB]at hb;have:=(tP h1 (zF _)).2;omega
 |some vm=>simp only at hb;rcases h0:eS vm c with _|k0;simp[h0]at hb;have e0:=(tP h0 (zF _)).2;simp only[h0]at hb;rcases hi with _|w;simp at hb;simp only at hb;rcases h2:eS w k0 with _|k2;simp[h2]at hb;simp only[h2]at hb;rcases lo with _|v;simp only[zA,zB]at hb;omega;simp only at hb;rcases h1:eS v k2 with _|k;simp[h1]at hb;simp only[h1,zA,zB]at hb;have:=(tP h1 (zF _)).2;omega
theorem bf(hb:dN n c lo hi mx=some (l,h,m))(hn:n<=c):h<=m:=by
 unfold dN at hb;cases mx with
 |none=>
  simp only at hb;cases hi with
  |none=>simp only at hb;rcases lo with _|v;simp only[zA,zB]at hb;omega;simp only at hb;rcases h1:eS v n with _|k;simp[h1]at hb;simp only[h1,zA,zB]at hb;omega
  |some w=>simp only at hb;rcases h2:eS w c with _|k2;simp[h2]at hb;have:=(tP h2 (zF _)).2;simp only[h2]at hb;rcases lo with _|v;simp only[zA,zB]at hb;omega;simp only at hb;rcases h1:eS v k2 with _|k;simp[h1]at hb;simp only[h1,zA,zB]at hb;omega
 |some vm=>simp only at hb;rcases h0:eS vm c with _|k0;simp[h0]at hb;simp only[h0]at hb;rcases hi with _|w;simp at hb;simp only at hb;rcases h2:eS w k0 with _|k2;simp[h2]at hb;have:=(tP h2 (zF _)).2;simp only[h2]at hb;rcases lo with _|v;simp only[zA,zB]at hb;omega;simp only at hb;rcases h1:eS v k2 with _|k;simp[h1]at hb;simp only[h1,zA,zB]at hb;omega
theorem Dr{x:Cx}{sz:Nat}:∀{l:List (List U)}{vs:List Value},eD x sz l vs->∀(i:Nat)(c:List U),l[i]? = some c->c.length=sz/\okL c=true/\bN x c (vs.drop (i*sz))
 |[],vs,h,i,c,hc=>by simp at hc
 |d::l,vs,h,i,c,hc=>by
  simp only[eD]at h;cases i with
  |zero=>simp at hc;subst hc;exact⟨h.1,h.2.1,by simpa using h.2.2.1⟩|succ i=>simp at hc;have:=Dr h.2.2.2 i c hc;rw[List.drop_drop]at this;rw[Nat.succ_mul,Nat.add_comm];exact this
theorem Xh{x:Cx}{sz:Nat}:∀{l:List (List U)}{vs:List Value},(∀(i:Nat)(c:List U),l[i]? = some c->c.length=sz/\okL c=true/\bN x c (vs.drop (i*sz)))->eD x sz l vs
 |[],vs,h=>by simp[eD]
 |d::l,vs,h=>by simp only[eD];have h0:=h 0 d rfl;refine⟨h0.1,h0.2.1,by simpa using h0.2.2,Xh fun i c hc=>?_⟩;have:=h (i+1) c (by simpa using hc);rw[List.drop_drop];rw[Nat.succ_mul,Nat.add_comm]at this;exact this
theorem gj{α:Type}(l:List α)(a h i:Nat):(jY l a h)[i]? = if a+i<h then l[a+i]? else none:=by
 unfold jY;rw[List.getElem?_drop,List.getElem?_take]
variable{a:Nat}
theorem qi{α:Type}{l:List α}(hh:h<=l.length):(jY l a h).length=h-a:=by simp[jY];omega
variable{x:Cx}
variable{sz:Nat}
theorem uo{l:List (List U)}{vs:List Value}(hr:eD x sz l vs):eD x sz (jY l a h) (vs.drop (a*sz)):=by
 refine Xh fun i c hc=>?_;rw[gj]at hc;split at hc;have:=Dr hr _ _ hc;rw[List.drop_drop];rw[Nat.add_mul]at this;exact this;cases hc
theorem Wl{l:List (List U)}(h:(l.all fun c=>Nat.beq c.length sz)=true):∀c∈l,c.length=sz:=fun c hc=>by
 have:=List.all_eq_true.1 h c hc;simpa[beq_eq]using this
theorem Xg{sz':Nat}{l:List (List U)}{vs:List Value}(hr:eD x sz l vs)(hne:l≠[])(h:(l.all fun c=>Nat.beq c.length sz')=true):sz=sz':=by
 rcases l with _|⟨c,l⟩;exact absurd rfl hne;rw[<-(Dr hr 0 c rfl).1];exact Wl h c (by simp)
theorem Dq{x:Cx}{sz:Nat}:∀{l:List (List U)}{vs:List Value},eD x sz l vs->l.length*sz<=vs.length
 |[],vs,h=>by simp
 |d::l,vs,h=>by simp only[eD]at h;have h1:=bN.len h.2.2.1;have h2:=Dq h.2.2.2;rw[List.length_drop]at h2;rw[zO,Nat.succ_mul];omega
theorem zb{x:Cx}{sz:Nat}:∀{l:List (List U)}{vs:List Value},eD x sz l vs->aQ x l.flatten (vs.take (l.length*sz))/\okL l.flatten=true
 |[],vs,h=>by simpa[okL]using aQ.nil x
 |d::l,vs,h=>by
  have hlen:=Dq h;simp only[eD]at h;obtain⟨h1,h2,h3,h4⟩:=h;obtain⟨g1,g2⟩:=zb h4;refine⟨?_,by simpa using DC h2 g2⟩;have e:vs.take ((d::l).length*sz)=vs.take d.length++(vs.drop sz).take (l.length*sz):=by rw[zO,Nat.succ_mul,Nat.add_comm,List.take_add,h1]
  rw[e,List.flatten_cons];exact h3.takeE.append g1
def qu(T:Tb)(x:Cx)(t:TypeId)(u:U)(va:Value)(lo hi mx:Option Value):Prop :=
 (∃v,iX T t va lo hi mx=some v/\aA x u v)\/(iX T t va lo hi mx=none/\∃v,v6 T x.s t va lo hi mx=some v/\aA x u v)\/ (iX T t va lo hi mx=none/\v6 T x.s t va lo hi mx=none/\∃v,PR T x.s t va lo hi mx=some (v,(bump x).s)/\aA (bump x) u v)
theorem kF{b:Nat}(h:a<b):Nat.blt a b=true:=Nat.ble_eq_true_of_le h
theorem BI{b:Nat}(h:¬ a<b):Nat.blt a b=false:=by
 rcases hb:Nat.blt a b with _|_;rfl;exact absurd (wV hb) h
variable{T:Tb}
variable{t:TypeId}
variable{e:TypeId}
variable{i:Nat}
variable{off:Nat}
variable{row:List Value}
theorem xj(hd:T.und t=some (.slice e))(hs:bJ T e=some sz)(hsz:0<sz){d:Nat}(hn:0<n)(hoff:off=d*sz)(hcap:tJ x.s i sz=some row)
  (hlen:off+n*sz<=row.length) (hb:dN n n lo hi none=some (l,h,m)):
  let va:=Value.slice (some ⟨i,off,none⟩) n (b7+d)
  iX T t va lo hi none=none/\(if l<h\/l=0 then v6 T x.s t va lo hi none=some (.slice (some ⟨i,(d+l)*sz,none⟩) (h-l) (b7+(d+l)))
   else v6 T x.s t va lo hi none=none/\PR T x.s t va lo hi none=some (.slice (some ⟨x.s.nx,0,none⟩) 0 b7,(bump x).s)):=by
 have hc:Nat.blt (b7+d) b7=false:=BI (by omega);obtain⟨n',rfl⟩:∃q,n=q+1:=⟨n-1,by omega⟩;have hcd:aW (b7+d)=d:=by simp[aW]
 have hbig:n'+1<=(row.length-off)/sz:=by rw[Nat.le_div_iff_mul_le hsz];omega
 obtain⟨b1,b2,b3,_⟩:=FW hb hbig;have hble:Nat.ble (off+h*sz) row.length=true:=Nat.ble_eq_true_of_le (by have:h*sz<=(n'+1)*sz:=Nat.mul_le_mul_right _ b3;omega);refine⟨by simp[iX,hd,hc,emptyS],?_⟩;have hbeq:Nat.beq off (d*sz)=true:=by simp[hoff]
 have hpos:Nat.blt 0 sz=true:=kF hsz;cases l with
 |zero=>simp only[or_true,if_true];simp only[v6,hd,hc,zD,hs,hcap,hcd,hbeq,zC,hpos,b1,hble];simp[hoff]|succ l=>
  by_cases hlt:l+1<h;simp only[hlt,true_or,if_true];simp only[v6,hd,hc,zD,hs,hcap,hcd,hbeq,zC,hpos,b1,hble,kF hlt];simp[hoff,Nat.add_mul,Nat.add_assoc];have:¬ (l+1<h\/l+1=0):=by omega
  simp only[this,if_false];simp only[v6,PR,hd,hc,zD,hs,hcap,hcd,hbeq,zC,hpos,b1,hble,BI hlt];simp[bump]
theorem fk(hd:T.und t=some (.slice e))(hs:bJ T e=some sz)(hsz:0<sz){d:Nat}(hn:0<n)(hoff:off=d*sz)(hcap:tJ x.s i sz=some row)
  (hlen:off+n*sz<=row.length) {vm:Value} (hb:dN n n lo hi (some vm)=some (l,h,m)) (hm:m<b7):
  let va:=Value.slice (some ⟨i,off,none⟩) n (b7+d)
  iX T t va lo hi (some vm)=none/\v6 T x.s t va lo hi (some vm)=some (.slice (some (cond (Nat.beq m l) ⟨i,off,none⟩ ⟨i,off+l*sz,none⟩)) (h-l) (m-l)):=by
 have hc:Nat.blt (b7+d) b7=false:=BI (by omega);obtain⟨n',rfl⟩:∃q,n=q+1:=⟨n-1,by omega⟩;have hcd:aW (b7+d)=d:=by simp[aW]
 have hbig:n'+1<=(row.length-off)/sz:=by rw[Nat.le_div_iff_mul_le hsz];omega
 obtain⟨b0,b1,b2,b3,b4⟩:=VR hb;have hb0:=(tP b0 hbig).1;have hble:Nat.ble (off+m*sz) row.length=true:=Nat.ble_eq_true_of_le (by have:m*sz<=(n'+1)*sz:=Nat.mul_le_mul_right _ b3;omega);refine⟨by simp[iX,hd,hc,emptyS],?_⟩;have hbeq:Nat.beq off (d*sz)=true:=by simp[hoff]
 have hpos:Nat.blt 0 sz=true:=kF hsz;simp only[v6,hd,hc,zD,hs,hcap,hcd,hbeq,zC,hpos,hb0,hble,b4 m (zF _),kF hm]
theorem ah{s:S}{l:List Value}(h:lk s.h i=some (.inl (l,e,sz+2))):tJ s i sz=some l:=by simp[tJ,h]
theorem xg{s:S}{l:List Value}(h:lk s.h i=some (.inl (l,sz+1,1))):tJ s i sz=some l:=by simp[tJ,h]
variable{k:Nat}
variable{off':Nat}
theorem Ux{n' c':Nat}(hr:aA x (.sl k off n c) v)(hi:x.ρ k=some i)(hc:c'<b7)(hn:n'<=c'):aA x (.sl k off' n' c') (.slice (some ⟨i,off',none⟩) n' c'):=by
 simp only[aA]at*;exact⟨rfl,hr.2.1,fun b hb=>⟨(hr.2.2 b hb).1,fun _=>⟨i,hi,rfl,hc,hn⟩⟩⟩
theorem Xf{st:Nat}(hr:aA x (.ptr k st off) v)(hi:x.ρ k=some i):aA x (.ptr k st off') (.pointer (some ⟨i,off',none⟩)):=by
 simp only[aA]at*;exact⟨rfl,hr.2.1,fun b hb=>⟨(hr.2.2 b hb).1,fun _=>⟨i,hi,rfl⟩⟩⟩
theorem UF{st n':Nat}{l:List U}{v':Value}(hr:aA x (.vl k st off n) v)(hb:gt x.σ.h k=some (.vec l e sz st))(h1:v'.oneCell'=true)(h:wD off' n' v' sz (x.ρ k)):aA x (.vl k st off' n') v':=by
 simp only[aA]at*;refine⟨h1,hr.2.1,fun b hb'=>⟨(hr.2.2 b hb').1,fun _=>?_⟩⟩;rw[hb]at hb';cases hb';exact⟨l,e,sz,rfl,h⟩
theorem uI:Nat.blt 0 b7=true:=kF (by simp[b7])
theorem Fl(hb:dN 0 0 lo hi mx=some (l,h,m)):l=0/\h=0/\m=0:=by
 cases mx with
 |none=>obtain⟨_,b2,b3,b4⟩:=FW hb (zF _);omega
 |some vm=>obtain⟨_,b2,b3,b4,_⟩:=VR hb;omega
theorem KO{t:Bool}{l:List (List U)}(hg:lk x.s.h i=some (.inl (row,e,1)))(hr:eD x sz l (row.drop off))(hh:h<=l.length)(hoff:a<h->off'=off+a*sz)
  (ht:t=true->c=h-a/\c<b7) (hc:a<h->(c<b7/\h-a<=c)\/(b7<=c/\e=sz+1/\0<sz/\off'=aW c*sz)):aA x (.isl t (jY l a h)) (.slice (some ⟨i,off',none⟩) (h-a) c):=by
 have hlen:=qi (a:=a) hh;simp only[aA];refine .inr ⟨i,off',c,by rw[hlen],by rw[hlen];exact ht,?_⟩;by_cases hlt:a<h;have e1:row.drop off'=(row.drop off).drop (a*sz):=by rw[List.drop_drop,hoff hlt]
 have hcut:=uo (a:=a) (h:=h) hr;rw[<-e1]at hcut;refine .inr ⟨row,e,sz,hg,hcut,?_⟩;rw[hlen];rcases hc hlt with hc |⟨c1,c2,c3,c4⟩;exact .inl hc;refine .inr ⟨c1,c2,c3,c4,?_⟩;have:=Dq hcut;rw[hlen,List.length_drop]at this;have hpos:0<(h-a)*sz:=Nat.mul_pos (by omega) c3;omega;exact .inl (List.eq_nil_of_length_eq_zero (by rw[hlen];omega))
theorem cn(hd:T.und t=some (.slice e))(hs:bJ T e=some sz){tt:Bool}{l:List (List U)}{u:U}{va:Value}(hall:(l.all fun c=>Nat.beq c.length sz)=true)
  (hb:dN l.length l.length lo hi mx=some (a,h,m)) (hu:match mx with
   |some _=>m<b7/\u=.isl (Nat.beq m h) (jY l a h)|none=>u=.isl (cond tt (Nat.beq h l.length) false) (jY l a h)) (ha:aA x (.isl tt l) va):qu T x t u va lo hi mx:=by
 simp only[aA]at ha;rcases ha with⟨rfl,rfl |⟨r,rfl⟩⟩|⟨i,off,c,rfl,ht,hrow⟩;obtain⟨rfl,rfl,rfl⟩:=Fl hb;refine .inl ⟨.slice none 0 0,by simp only[zS]at hb;simp[iX,hd,hb,hs,uI],?_⟩;rcases mx with _|vm;simp only at hu;subst hu;simp[aA,jY];simp only at hu;rw[hu.2];simp[aA,jY];obtain⟨rfl,rfl,rfl⟩:=Fl hb;refine .inl ⟨.chan (some r),by simp only[zS]at hb;simp[iX,hd,hb,hs],?_⟩;rcases mx with _|vm;simp only at hu;subst hu;simp[aA,jY];simp only at hu;rw[hu.2];simp[aA,jY];by_cases hne:l=[];subst hne;obtain⟨rfl,rfl,rfl⟩:=Fl hb;simp only[zS]at hb ht;have fin:∀(t':Bool)(off' c':Nat),(t'=true->c'=0)->aA x (.isl t' (jY [] 0 0)) (.slice (some ⟨i,off',none⟩) 0 c'):=fun t' off' c' h1=>by simp only[aA];exact .inr ⟨i,off',c',by simp[jY],fun h=>by rw[h1 h];simp[jY,b7],.inl (by simp[jY])⟩
 by_cases hc:c<b7;cases mx with
 |none=>
  simp only[zS]at hu;subst hu;obtain⟨b1,_⟩:=FW hb (Nat.zero_le c);have ht':(cond tt (Nat.beq 0 0) false=true)->c=0:=fun h=>(ht (by cases tt<;>simp_all)).1;cases hml:Nat.beq c 0 with
  |true=>exact .inl ⟨_,by simp only[zS,iX,hd,kF hc,zC,b1,hs,hml]<;>rfl,fin _ off c ht'⟩|false=>exact .inl ⟨_,by simp only[zS,iX,hd,kF hc,zC,zD,b1,hs,hml]<;>rfl,fin _ _ c ht'⟩
 |some vm=>simp only at hu;obtain⟨_,_,_,_,b4⟩:=VR hb;rw[hu.2];exact .inl ⟨_,by simp only[zS,iX,hd,kF hc,zC,b4 c (Nat.zero_le _),hs]<;>rfl,fin _ off 0 (fun _=>rfl)⟩
 cases mx with|none=>simp only[zS]at hu;subst hu;exact .inl ⟨_,by simp only[zS,iX,hd,BI hc,zD,emptyS,hb,hs]<;>rfl,fin _ off c (fun h=>absurd (ht (by cases tt<;>simp_all)).2 hc)⟩|some vm=>simp only at hu;rw[hu.2];exact .inl ⟨_,by simp only[zS,iX,hd,BI hc,zD,emptyS,hb,hs]<;>rfl,fin _ off 0 (fun _=>rfl)⟩
 rcases hrow with hrow |⟨row,e',sz',g1,g2,g3⟩;exact absurd hrow hne;have hsz:=Xg g2 hne hall;subst hsz;have hpos:0<l.length:=by cases l<;>simp_all
 rcases g3 with⟨hc,hlc⟩|⟨hc,he,hz,hoff,hlen⟩;cases mx with
 |none=>
  simp only at hu;subst hu;obtain⟨b1,b2,b3,b4⟩:=FW hb hlc;have ht':(cond tt (Nat.beq h l.length) false=true)->c-a=h-a/\c-a<b7:=fun hh=>by rcases tt with _|_;simp at hh;simp at hh;have:=(ht rfl).1;omega
  cases hml:Nat.beq c a with
  |true=>
   have:c=a:=by simpa[beq_eq]using hml
   exact .inl ⟨_,by simp only[iX,hd,kF hc,zC,b1,hs,hml]<;>rfl,KO g1 g2 b3 (fun h1=>by omega) ht' (fun h1=>by omega)⟩
  |false=>exact .inl ⟨_,by simp only[iX,hd,kF hc,zC,zD,b1,hs,hml]<;>rfl,KO g1 g2 b3 (fun h1=>rfl) ht' (fun h1=>.inl (by omega))⟩
 |some vm=>
  simp only at hu;rw[hu.2];obtain⟨b0,b1,b2,b3,b4⟩:=VR hb;have ht':Nat.beq m h=true->m-a=h-a/\m-a<b7:=fun hh=>by simp at hh;omega
  cases hml:Nat.beq m a with
  |true=>
   have:m=a:=by simpa[beq_eq]using hml
   exact .inl ⟨_,by simp only[iX,hd,kF hc,zC,b4 c (by omega),hs,hml]<;>rfl,KO g1 g2 (by omega) (fun h1=>by omega) ht' (fun h1=>by omega)⟩
  |false=>exact .inl ⟨_,by simp only[iX,hd,kF hc,zC,zD,b4 c (by omega),hs,hml]<;>rfl,KO g1 g2 (by omega) (fun h1=>rfl) ht' (fun h1=>.inl (by omega))⟩
 obtain⟨d,rfl⟩:∃d,c=b7+d:=⟨c-b7,by omega⟩;have hcd:aW (b7+d)=d:=by simp[aW]
 rw[hcd]at hoff;subst he;have htt:tt=false:=by rcases tt with _|_;rfl;exact absurd (ht rfl).2 (by omega)
 subst htt;cases mx with
 |none=>simp only[zD]at hu;subst hu;obtain⟨b1,b2,b3,b4⟩:=FW hb (zF _);obtain⟨s1,s2⟩:=xj hd hs hz (i:=i) (n:=l.length) (d:=d) hpos hoff (xg g1) hlen hb;split at s2;exact .inr (.inl ⟨s1,_,s2,KO g1 g2 b3 (fun _=>by rw[hoff,Nat.add_mul]) (fun h=>by cases h) (fun _=>.inr ⟨by omega,rfl,hz,by simp[aW]⟩)⟩);refine .inr (.inr ⟨s1,s2.1,_,s2.2,?_⟩);have hn:(jY l a h)=[]:=List.eq_nil_of_length_eq_zero (by rw[qi b3];omega);rw[hn];simp only[aA];exact .inr ⟨x.s.nx,0,b7,rfl,(fun h=>by cases h),.inl trivial⟩
 |some vm=>
  simp only at hu;rw[hu.2];obtain⟨b0,b1,b2,b3,b4⟩:=VR hb;obtain⟨s1,s2⟩:=fk hd hs hz (i:=i) (n:=l.length) (d:=d) hpos hoff (xg g1) hlen hb hu.1;have ht':Nat.beq m h=true->m-a=h-a/\m-a<b7:=fun hh=>by simp at hh;omega
  cases hml:Nat.beq m a with
  |true=>
   have:m=a:=by simpa[beq_eq]using hml
   rw[hml,zC]at s2;exact .inr (.inl ⟨s1,_,s2,KO g1 g2 (by omega) (fun h1=>by omega) ht' (fun h1=>by omega)⟩)
  |false=>rw[hml,zD]at s2;exact .inr (.inl ⟨s1,_,s2,KO g1 g2 (by omega) (fun h1=>rfl) ht' (fun h1=>.inl (by omega))⟩)
theorem cj(hx:eQ x){a u:U}{va:Value}(h:FG T x.σ t a lo hi mx=some u)(ha:aA x a va):qu T x t u va lo hi mx:=by
 unfold FG at h;rcases hd:T.und t with _|d;simp[hd]at h;cases d with
 |string=>
  simp only[hd]at h;cases a with
  |str s=>cases mx with|some _=>simp at h|none=>simp only at h;rcases hb:dN s.length s.length lo hi none with _|q;simp[hb]at h;obtain⟨l,hh,m⟩:=q;simp only[hb,zA]at h;subst h;simp only[aA]at ha;subst ha;exact .inl ⟨.string ⟨((s.take hh).drop l).toArray⟩,by simp[iX,hd,hb],by simp[aA,jY]⟩
  |_=>simp at h
 |slice e=>
  simp only[hd]at h;rcases hs:bJ T e with _|sz;simp[hs]at h;simp only[hs]at h;cases a with
  |nils=>simp only at h;simp only[aA]at ha;subst ha;rcases hb:dN 0 0 lo hi mx with _|q;simp[hb]at h;obtain⟨l,hh,m⟩:=q;simp only[hb,zA]at h;subst h;obtain⟨rfl,rfl,rfl⟩:=Fl hb;exact .inl ⟨.slice none 0 0,by simp[iX,hd,hb,hs,uI],by simp[aA]⟩
  |sl k off n c=>
   simp only at h;rcases hl:live x.σ k 0 with _|_;simp[hl]at h;simp only[hl,zC]at h;rcases hb:dN n c lo hi mx with _|q;simp[hb]at h;obtain⟨l,hh,m⟩:=q;simp only[hb,zA]at h;subst h;obtain⟨i,hi',rfl,hc,hnc⟩:=D2 hl ha;obtain⟨_,hmc⟩:=bg hb;have hhm:=bf hb hnc;cases hml:Nat.beq m l with
   |true=>exact .inl ⟨_,by simp only[iX,hd,kF hc,zC,hb,hs,hml]<;>rfl,Ux ha hi' (by omega) (by omega)⟩|false=>exact .inl ⟨_,by simp only[iX,hd,kF hc,zC,zD,hb,hs,hml]<;>rfl,Ux ha hi' (by omega) (by omega)⟩
  |vl k st off n=>
   simp only at h;rcases hv:iU x.σ k st with _|q;simp[hv]at h;obtain⟨r,e',sz'⟩:=q;obtain⟨hg,hl⟩:=Eo hv;simp only[hv,beq_eq]at h;by_cases hz:sz'=sz;subst hz;simp only[yC,zC]at h;cases mx with
   |some _=>simp at h|none=>
    simp only at h;rcases hb:dN n n lo hi none with _|q;simp[hb]at h;obtain⟨l,hh,m⟩:=q;simp only[hb]at h;split at h;rename_i hlen;simp only[zA]at h;subst h;obtain⟨l0,e0,TP,hg',hvl⟩:=KP hl ha;have hgg:(some (B.vec r e' sz' st))=some (.vec l0 e0 TP st):=hg.symm.trans hg';cases hgg;obtain⟨_,k1,k2,h3⟩:=hx.ok k _ hg;have zero:∀o c,n=0->va=.slice o 0 c->(∀a,o=some a->a.spot=none)->(o=none->c=0)->∃o' c',iX T t va lo hi none=some (.slice o' 0 c')/\(c=0->c'=0)/\(∀a,o'=some a->a.spot=none)/\(o=none->o'=none)/\(∀a,o=some a->∃a',o'=some a')/\(¬ c<b7->o'=o/\c'=c):=by
     rintro o c rfl rfl hsp ho;obtain⟨b1,b2,b3,b4⟩:=FW hb (Nat.zero_le c);obtain rfl:hh=0:=by omega
     obtain rfl:l=0:=by omega
     by_cases hc:c<b7;rcases o with _|a;exact⟨none,c,by simp[iX,hd,kF hc,b1,hs],by simp,by simp,by simp,by simp,fun hn=>absurd hc hn⟩;rcases hml:Nat.beq c 0 with _|_;exact⟨some ⟨a.block,a.off+0*sz',none⟩,c,by simp only[iX,hd,kF hc,b1,hs,hml,zC,zD,Nat.sub_zero],by simp,by simp,by simp,by simp,fun hn=>absurd hc hn⟩;exact⟨some a,c,by simp only[iX,hd,kF hc,b1,hs,hml,zC,Nat.sub_zero],by simp,by simpa using hsp a rfl,by simp,by simp,fun hn=>absurd hc hn⟩;rcases o with _|a;exact absurd (by rw[ho rfl];simp[b7]) hc;obtain rfl:m=0:=by omega
     exact⟨some a,c,by simp only[iX,hd,BI hc,zD,emptyS,hb,hs],by simp,by simpa using hsp a rfl,by simp,by simp,fun _=>⟨rfl,rfl⟩⟩
    have sK:n=0->l=0/\hh=0:=fun Jb=>by obtain⟨b1,b2,b3,b4⟩:=FW hb (zF _);omega
    rcases h3 with⟨hr0,hρ⟩|⟨i,l',e1,e2,e3⟩;rw[hρ]at hvl;obtain⟨rfl,rfl,o,rfl,hsp⟩:=hvl;obtain⟨rfl,rfl⟩:=sK rfl;obtain⟨o',c',q1,q2,q3,q4,q5,q6⟩:=zero o 0 rfl rfl hsp (fun _=>rfl);rw[q2 rfl]at q1;exact .inl ⟨_,q1,UF ha hg rfl (by rw[hρ];exact⟨rfl,rfl,o',rfl,q3⟩)⟩;rw[e1]at hvl;rcases hvl with⟨h0,rfl,a,c,rfl,hsp⟩|rfl;obtain⟨rfl,rfl⟩:=sK rfl;obtain⟨o',c',q1,q2,q3,q4,q5,q6⟩:=zero (some a) c rfl rfl (by simpa using hsp) (by simp);obtain⟨a',rfl⟩:=q5 a rfl;exact .inl ⟨_,q1,UF ha hg rfl (by rw[e1];exact .inl ⟨by omega,rfl,a',c',rfl,q3 a' rfl⟩)⟩;by_cases hn:n=0;subst hn;obtain⟨rfl,rfl⟩:=sK rfl;obtain⟨o',c',q1,q2,q3,q4,q5,q6⟩:=zero (some ⟨i,off*sz',none⟩) (b7+off) rfl rfl (by simp) (by simp);obtain⟨rfl,rfl⟩:=q6 (by omega);exact .inl ⟨_,q1,UF ha hg rfl (by rw[e1];exact .inr rfl)⟩;have:=xj hd hs k2 (i:=i) (n:=n) (d:=off) (by omega) rfl (ah e2) (by rw[<-e3.2,<-Nat.add_mul];exact hlen) hb;obtain⟨s1,s2⟩:=this;split at s2;exact .inr (.inl ⟨s1,_,s2,UF ha hg rfl (by rw[e1];exact .inr rfl)⟩);rename_i hlt;obtain⟨b1,b2,b3,b4⟩:=FW hb (zF _);refine .inr (.inr ⟨s1,s2.1,_,s2.2,?_⟩);have hb':=Pb ha;have Se:hh-l=0:=by omega
    rw[Se];exact UF (x:=bump x) hb' hg rfl (by show wD _ _ _ _ (x.ρ k);rw[e1];exact .inl ⟨by omega,rfl,_,_,rfl,rfl⟩);cases h
   simp[hz]at h
  |isl tt l=>simp only at h;split at h;rename_i hall;rcases hb:dN l.length l.length lo hi mx with _|q;simp[hb]at h;obtain⟨a,hh,m⟩:=q;simp only[hb]at h;refine cn hd hs (tt:=tt) hall hb ?_ ha;rcases mx with _|vm;simp only[zA]at h ⊢;exact h.symm;simp only at h ⊢;split at h;rename_i hm;simp only[zA]at h;exact⟨hm,h.symm⟩;cases h;cases h
  |_=>simp at h
 |_=>simp[hd]at h
variable{T:Tb}
variable{x:Cx}
variable{a:U}
variable{u:U}
variable{va:Value}
theorem de{st:TypeId}{f:Nat}(h:VQ T x.σ st a f=some u)(ha:aA x a va):∃v,VP T st va f=some v/\aA x u v:=by
 unfold VQ at h;unfold VP;rcases hd:T.und st with _|d;simp[hd]at h;cases d with
 |struct fs=>
  simp only[hd]at h ⊢;rcases hf:nth fs.toList f with _|fd;simp[hf]at h;simp only[hf]at h ⊢;rcases hs:bJ T fd.type with _|n;simp[hs]at h;cases n with
  |zero=>simp[hs]at h|succ n=>
   simp only[hs]at h;cases a with
   |ptr k s off=>simp only at h;rcases hl:live x.σ k s with _|_;simp[hl]at h;simp only[hl,zC,zA]at h;subst h;obtain⟨i,hi,rfl⟩:=KU hl ha;exact⟨_,rfl,Xf ha hi⟩
   |iptr l=>simp only[zA]at h;subst h;simp only[aA]at ha;obtain⟨i,off,row,e,rfl,h2,h3,h4⟩:=ha;refine⟨_,rfl,?_⟩;simp only[aA];exact⟨i,off+fd.offset,row,e,rfl,h2,by rw[<-List.drop_drop];exact h3.drop _,vB h4 _⟩
   |_=>simp at h
 |_=>simp[hd]at h
theorem tg{st:TypeId}{f:Nat}(h:Mk T st a f=some u)(ha:aA x a va):∃v,UL T st va f=some v/\aA x u v:=by
 unfold Mk at h;unfold UL;rcases hd:T.und st with _|d;simp[hd]at h;cases d with
 |struct fs=>
  simp only[hd]at h ⊢;rcases hf:nth fs.toList f with _|fd;simp[hf]at h;simp only[hf]at h ⊢;cases a with
  |agg cs=>simp only[aA]at ha;obtain⟨vs,rfl,h1,h2,h3⟩:=ha;exact Ze h ⟨h1,h2⟩ h3
  |_=>simp at h
 |_=>simp[hd]at h
theorem B9{i:Int}{n:Nat}(h:0<=i/\i<n):kG i n=true:=by
 unfold kG;cases i with
 |ofNat k=>exact kF (by have:=h.2;simp at this;exact this)|negSucc k=>have:=h.1;omega
variable{t:TypeId}
theorem db(hx:eQ x){b:U}{vb:Value}(h:sE T x.σ t a b=some u)(ha:aA x a va)(hb:aA x b vb):∃v,VJ T t va vb=some v/\aA x u v:=by
 unfold sE at h;cases b with
 |int k i=>
  simp only[aA]at hb;subst hb;simp only[VJ];simp only at h;rcases hd:T.und t with _|d;simp[hd]at h;cases d with
  |slice e=>
   simp only[hd]at h;rcases hs:bJ T e with _|sz;simp[hs]at h;simp only[hs]at h;cases a with
   |sl k off n c=>
    simp only at h;rcases hl:live x.σ k 0 with _|_;simp[hl]at h;simp only[hl,zC]at h;split at h;rename_i hin
    simp only[zA]at h;subst h;obtain⟨i',hi,rfl,_⟩:=D2 hl ha;refine⟨_,by simp only[B9 hin,zC,hs]<;>rfl,?_⟩;obtain⟨b,q1,q2⟩:=VW hl;simp only[aA]at ha ⊢;exact⟨rfl,ha.2.1,fun b hb=>⟨Nat.zero_le _,fun _=>⟨i',hi,rfl⟩⟩⟩;cases h
   |vl k st off n=>
    simp only at h;rcases hv:iU x.σ k st with _|q;simp[hv]at h;obtain⟨l,e',sz'⟩:=q;obtain⟨hg,hl⟩:=Eo hv;simp only[hv,beq_eq]at h;by_cases hz:sz'=sz;subst hz;simp only[yC,zC]at h;split at h;rename_i hin
    simp only[zA]at h;subst h;obtain⟨i',l0,e0,TP,l',h1,h2,rfl,h4,h5,h6,h7⟩:=Oh hx hl ha (by omega);have:=hg.symm.trans h1;cases this;refine⟨_,by simp only[B9 ⟨hin.1,hin.2.1⟩,zC,hs]<;>rfl,?_⟩;simp only[aA]at ha ⊢;refine⟨rfl,ha.2.1,fun b hb=>⟨(ha.2.2 b hb).1,fun _=>⟨i',h2,rfl⟩⟩⟩;cases h;simp[hz]at h
   |isl tt l=>
    simp only at h;split at h;rename_i hin
    rcases hc:l[i.toNat]? with _|c;simp[hc]at h;simp only[hc,beq_eq]at h;by_cases hz:c.length=sz;simp only[hz,yC,zC,zA]at h;subst h;simp only[aA]at ha;rcases ha with⟨rfl,_⟩|⟨i',off,c',rfl,ht,hrow⟩;simp at hc;rcases hrow with rfl |⟨row,e',sz',g1,g2,g3⟩;simp at hc;obtain⟨q1,q2,q3⟩:=Dr g2 _ _ hc;refine⟨_,by simp only[B9 hin,zC,hs]<;>rfl,?_⟩;simp only[aA];refine⟨i',off+i.toNat*sz,row,e',rfl,g1,?_,q2⟩;rw[List.drop_drop]at q3;rw[<-hz,q1];exact q3;simp[hz]at h;cases h
   |_=>simp at h
  |array n e=>
   simp only[hd]at h;rcases hs:bJ T e with _|sz;simp[hs]at h;simp only[hs]at h;cases a with
   |ptr k st off=>
    simp only at h;rcases hl:live x.σ k st with _|_;simp[hl]at h;simp only[hl,zC]at h;split at h;rename_i hin
    simp only[zA]at h;subst h;obtain⟨i',hi,rfl⟩:=KU hl ha;exact⟨_,by simp only[B9 hin,zC,hs]<;>rfl,Xf ha hi⟩;cases h
   |iptr l=>
    simp only at h;split at h;rename_i hin
    simp only[zA]at h;subst h;simp only[aA]at ha;obtain⟨i',off,row,e',rfl,h2,h3,h4⟩:=ha;refine⟨_,by simp only[B9 hin,zC,hs]<;>rfl,?_⟩;simp only[aA];exact⟨i',_,row,e',rfl,h2,by rw[<-List.drop_drop];exact h3.drop _,vB h4 _⟩;cases h
   |_=>simp at h
  |_=>simp[hd]at h
 |_=>simp at h
theorem tc{b:U}{vb:Value}(h:Cp T t a b=some u)(ha:aA x a va)(hb:aA x b vb):∃v,KJ T t va vb=some v/\aA x u v:=by
 unfold Cp at h;cases a with
 |agg cs=>
  simp only at h;cases b with
  |int k i=>
   simp only[aA]at ha hb;subst hb;obtain⟨vs,rfl,h1,h2,h3⟩:=ha;simp only at h;rcases hd:T.und t with _|d;simp[hd]at h;cases d with
   |array n e=>
    simp only[hd]at h;split at h;rename_i hin
    rcases hs:bJ T e with _|sz;simp[hs]at h;simp only[hs]at h;obtain⟨v,q1,q2⟩:=Ze h ⟨h1,h2⟩ h3;exact⟨v,by simp only[KJ,hd,B9 hin,zC,hs];exact q1,q2⟩;cases h
   |_=>simp[hd]at h
  |_=>simp at h
 |_=>exact H5 h ha hb
theorem lr(hx:eQ x)(h:oI T x.σ t a=some u)(ha:aA x a va):
  ∃ v,(tY T t va=some v\/(tY T t va=none/\∃ kt et r,T.und t=some (.map kt et)/\va = .map r/\(match r with
     |none=>some (Value.int .i64 0)|some r=>match lk x.s.h r with
      |some (.inr (es,_))=>some (.int .i64 es.length)|_=>none)=some v))/\aA x u v:=by
 unfold oI at h;unfold tY;rcases hd:T.und t with _|d;simp[hd]at h;cases d with
 |string=>
  simp only[hd]at h ⊢;cases a with
  |str s=>simp only[zA]at h;subst h;simp only[aA]at ha;subst ha;exact⟨_,.inl rfl,by simp[aA]⟩|_=>simp at h
 |slice e=>
  simp only[hd]at h ⊢;cases a with
  |nils=>simp only[zA]at h;subst h;simp only[aA]at ha;subst ha;exact⟨_,.inl rfl,by simp[aA]⟩|sl k off n c=>simp only at h;rcases hl:live x.σ k 0 with _|_;simp[hl]at h;simp only[hl,zC,zA]at h;subst h;obtain⟨i,_,rfl,_⟩:=D2 hl ha;exact⟨_,.inl rfl,by simp[aA]⟩
  |vl k st off n=>simp only at h;rcases hl:live x.σ k st with _|_;simp[hl]at h;simp only[hl,zC,zA]at h;subst h;obtain⟨_,_,_,_,hv⟩:=KP hl ha;obtain⟨o,c,rfl⟩:=Lu hv;exact⟨_,.inl rfl,by simp[aA]⟩
  |isl tt l=>simp only[zA]at h;subst h;simp only[aA]at ha;rcases ha with⟨rfl,rfl |⟨_,rfl⟩⟩|⟨_,_,_,rfl,_⟩<;>exact⟨_,.inl rfl,by simp[aA]⟩
  |_=>simp at h
 |array n e=>simp only[hd]at h ⊢;cases a<;>simp at h<;>subst h<;>exact⟨_,.inl rfl,by simp[aA]⟩|map kt et=>
  simp only[hd]at h ⊢;cases a with
  |nilm=>simp only[zA]at h;subst h;simp only[aA]at ha;subst ha;exact⟨_,.inr ⟨trivial,kt,et,none,rfl,rfl,rfl⟩,by simp[aA]⟩|map k=>
   simp only at h;rcases hg:gt x.σ.h k with _|b;simp[hg]at h;cases b with
   |map es cl=>simp only[hg,zA]at h;subst h;obtain⟨i,hi,rfl⟩:=Du (x:=x) (by simp[live,hg,B.st]) ha;obtain⟨_,i',es',e1,e2,e3⟩:=hx.ok k _ hg;rw[hi]at e1;cases e1;exact⟨.int .i64 es'.length,.inr ⟨trivial,kt,et,some i,rfl,rfl,by simp[e2]⟩,by simp[aA,e3.1]⟩
   |_=>simp[hg]at h
  |_=>simp at h
 |_=>simp[hd]at h
theorem mw(hx:eQ x)(h:OO T x.σ t a=some u)(ha:aA x a va):∃v,A3 T t va=some v/\aA x u v:=by
 unfold OO at h;unfold A3;rcases hd:T.und t with _|d;simp[hd]at h;cases d with
 |slice e=>
  simp only[hd]at h ⊢;cases a with
  |nils=>simp only[zA]at h;subst h;simp only[aA]at ha;subst ha;exact⟨_,rfl,by simp[aA]⟩|sl k off n c=>simp only at h;rcases hl:live x.σ k 0 with _|_;simp[hl]at h;simp only[hl,zC,zA]at h;subst h;obtain⟨i,_,rfl,hc,_⟩:=D2 hl ha;have hc':Nat.blt c b7=true:=Nat.ble_eq_true_of_le hc;exact⟨.int .i64 c,by simp only[hc',zC],by simp[aA]⟩
  |_=>simp at h
 |_=>simp[hd]at h
theorem uz(hx:eQ x){tm:List U}{tv:List Value}(ht:aQ x tm tv){op:Op}(h:eH T x.σ tm op=some u):kH T x tv op u x.σ:=by
 have one:∀v,eF T tv op=some v->aA x u v->kH T x tv op u x.σ:=fun v h1 h2=>kH.same hx (sg h1) h2;unfold eH at h;cases op with
 |move o=>obtain⟨v,h1,h2⟩:=dP ht h;exact one v (by simp[eF,h1]) h2
 |assign o=>obtain⟨v,h1,h2⟩:=dP ht h;exact one v (by simp[eF,h1]) h2
 |pick c a b=>
  simp only at h;rcases hc:bD tm c with _|cu;simp[hc]at h;obtain⟨cv,c1,c2⟩:=dP ht hc;cases cu with
  |bool t=>
   simp only[aA]at c2;subst c2;cases t with
   |true=>simp only[hc]at h;obtain⟨v,h1,h2⟩:=dP ht h;exact one v (by simp[eF,c1,h1]) h2
   |false=>simp only[hc]at h;obtain⟨v,h1,h2⟩:=dP ht h;exact one v (by simp[eF,c1,h1]) h2
  |_=>simp[hc]at h
 |build t ps=>simp only at h;rcases hp:pQ tm ps.toList with _|qs;simp[hp]at h;simp only[hp]at h;obtain⟨vs,h1,h2⟩:=Pu ht hp;obtain⟨v,h3,h4⟩:=f' h h2;exact one v (by simp[eF,h1,h3]) h4
 |nilCheck o=>
  simp only at h;rcases ho:bD tm o with _|a;simp[ho]at h;obtain⟨va,a1,a2⟩:=dP ht ho;cases a with
  |ptr k st off=>simp only[ho]at h;rcases hl:live x.σ k st with _|_;simp[hl]at h;simp only[hl,zC,zA]at h;subst h;obtain⟨i,hi,rfl⟩:=KU hl a2;exact one _ (by simp[eF,a1]) a2
  |iptr l=>simp only[ho,zA]at h;subst h;have a3:=a2;simp only[aA]at a2;obtain⟨i,off,row,e,rfl,_⟩:=a2;exact one _ (by simp[eF,a1]) a3
  |fn f p q=>
   cases f with
   |func g=>simp only[ho,zA]at h;subst h;have a3:=a2;simp only[aA]at a2;obtain⟨i,off,rfl,_⟩:=a2;exact one _ (by simp[eF,a1]) a3
   |_=>simp[ho]at h
  |_=>simp[ho]at h
 |binOp o t a b ty=>simp only at h;rcases ha:bD tm a with _|au;simp[ha]at h;rcases hb:bD tm b with _|bu;simp[ha,hb]at h;simp only[ha,hb]at h;obtain⟨va,a1,a2⟩:=dP ht ha;obtain⟨vb,b1,b2⟩:=dP ht hb;obtain⟨v,h1,h2⟩:=uc hx h a2 b2;exact one v (by simp[eF,a1,b1,h1]) h2
 |unOp o t a=>simp only at h;rcases ha:bD tm a with _|au;simp[ha]at h;simp only[ha]at h;obtain⟨va,a1,a2⟩:=dP ht ha;obtain⟨v,h1,h2⟩:=H6 h a2;exact one v (by simp[eF,a1,h1]) h2
 |convert s d a=>simp only at h;rcases ha:bD tm a with _|au;simp[ha]at h;simp only[ha]at h;obtain⟨va,a1,a2⟩:=dP ht ha;obtain⟨v,h1,h2⟩:=H6 h a2;exact one v (by simp[eF,a1,h1]) h2
 |makeFunc f a b=>simp only at h;rcases ha:iC tm a.toList with _|au;simp[ha]at h;rcases hb:iC tm b.toList with _|bu;simp[ha,hb]at h;simp only[ha,hb,zA]at h;subst h;obtain⟨va,a1,a2⟩:=DA ht ha;obtain⟨vb,b1,b2⟩:=DA ht hb;exact one _ (by simp[eF,a1,b1]<;>rfl) (by simp only[aA];exact⟨va,vb,rfl,a2.1,a2.2,b2.1,b2.2⟩)
 |slice t a lo hi mx=>simp only at h;rcases ha:bD tm a with _|au;simp[ha]at h;rcases h1:nZ tm lo with _|lo';simp[ha,h1]at h;rcases h2:nZ tm hi with _|hi';simp[ha,h1,h2]at h;rcases h3:nZ tm mx with _|mx';simp[ha,h1,h2,h3]at h;simp only[ha,h1,h2,h3]at h;obtain⟨va,a1,a2⟩:=dP ht ha;have e1:=Pv ht h1;have e2:=Pv ht h2;have e3:=Pv ht h3;rcases cj hx h a2 with⟨v,s1,s2⟩|⟨s0,v,s1,s2⟩|⟨s0,s1,v,s2,s3⟩;exact one v (by simp[eF,a1,e1,e2,e3,s1]) s2;exact kH.same hx (VF (by simp[eF,a1,e1,e2,e3,s0]) (by simp[iV,a1,e1,e2,e3,s1])) s2;exact⟨v,bump x,Zn (by simp[eF,a1,e1,e2,e3,s0]) (by simp[iV,a1,e1,e2,e3,s1]) (by simp[lW,a1,e1,e2,e3,s2]),rfl,s3,bc hx⟩
 |fieldAddr t a f=>simp only at h;rcases ha:bD tm a with _|au;simp[ha]at h;simp only[ha]at h;obtain⟨va,a1,a2⟩:=dP ht ha;obtain⟨v,h1,h2⟩:=de h a2;exact one v (by simp[eF,a1,h1]) h2
 |field t a f=>simp only at h;rcases ha:bD tm a with _|au;simp[ha]at h;simp only[ha]at h;obtain⟨va,a1,a2⟩:=dP ht ha;obtain⟨v,h1,h2⟩:=tg h a2;exact one v (by simp[eF,a1,h1]) h2
 |indexAddr t a b=>simp only at h;rcases ha:bD tm a with _|au;simp[ha]at h;rcases hb:bD tm b with _|bu;simp[ha,hb]at h;simp only[ha,hb]at h;obtain⟨va,a1,a2⟩:=dP ht ha;obtain⟨vb,b1,b2⟩:=dP ht hb;obtain⟨v,h1,h2⟩:=db hx h a2 b2;exact one v (by simp[eF,a1,b1,h1]) h2
 |index t a b=>simp only at h;rcases ha:bD tm a with _|au;simp[ha]at h;rcases hb:bD tm b with _|bu;simp[ha,hb]at h;simp only[ha,hb]at h;obtain⟨va,a1,a2⟩:=dP ht ha;obtain⟨vb,b1,b2⟩:=dP ht hb;obtain⟨v,h1,h2⟩:=tc h a2 b2;exact one v (by simp[eF,a1,b1,h1]) h2
 |extract a i=>
  simp only at h;rcases ha:bD tm a with _|au;simp[ha]at h;simp only[ha]at h;obtain⟨va,a1,a2⟩:=dP ht ha;cases au with
  |tup l=>simp only[aA]at a2;obtain⟨vs,rfl,q1,q2⟩:=a2;simp only[Dz,eR]at h;obtain⟨v,h1,h2⟩:=(show aQ x l vs from⟨q1,q2⟩).get h;exact one v (by simp[eF,a1,QS,eR,h1]) h2
  |_=>simp[Dz]at h
 |call c=>
  simp only at h;obtain⟨callee,args,ats⟩:=c;cases callee with
  |builtin b=>
   cases b with
   |len=>
    simp only at h;rcases ha:iC tm args.toList with _|us;simp[ha]at h;obtain⟨vs,a1,a2⟩:=DA ht ha;rcases hats:ats.toList with _|⟨t,ts⟩;simp[ha,hats]at h;rcases us with _|⟨a,l⟩;simp[ha]at h;cases l with
    |cons _ _=>simp[ha]at h|nil=>obtain⟨va,vs',rfl,r1,r2⟩:=a2.inv;rw[r2.nil_inv]at a1;simp only[ha,hats]at h;obtain⟨v,q1,q2⟩:=lr hx h r1;rcases q1 with q1 |⟨q0,kt,et,r,hd,rfl,q1⟩;exact one v (by simp[eF,a1,hats,q1]) q2;refine kH.same hx (VF (by simp[eF,a1,hats,q0]) ?_) q2;rcases r with _|r;simp only[iV,a1,hats,hd];exact q1;simp only[iV,a1,hats,hd];exact q1
   |cap=>
    simp only at h;rcases ha:iC tm args.toList with _|us;simp[ha]at h;obtain⟨vs,a1,a2⟩:=DA ht ha;rcases hats:ats.toList with _|⟨t,ts⟩;simp[ha,hats]at h;rcases us with _|⟨a,l⟩;simp[ha]at h;cases l with
    |cons _ _=>simp[ha]at h|nil=>obtain⟨va,vs',rfl,r1,r2⟩:=a2.inv;rw[r2.nil_inv]at a1;simp only[ha,hats]at h;obtain⟨v,q1,q2⟩:=mw hx h r1;exact one v (by simp[eF,a1,hats,q1]) q2
   |max=>simp only at h;rcases ha:iC tm args.toList with _|us;simp[ha]at h;obtain⟨vs,a1,a2⟩:=DA ht ha;rcases us with _|⟨a,l⟩;simp[ha]at h;obtain⟨va,vs',rfl,r1,r2⟩:=a2.inv;simp only[ha]at h;rcases h1:toV a with _|v1;simp[h1]at h;rcases h2:j0 l with _|v2;simp[h1,h2]at h;simp only[h1,h2]at h;have e1:=(oN a v1 h1 x va).1 r1;have e2:=(QK l v2 h2 x vs').1 r2;subst e1;subst e2;rcases h3:pM KC va vs' with _|r;simp[h3]at h;simp only[h3]at h;exact one r (by simp[eF,a1,h3]) ((B7 r u h).2 x)
   |min=>simp only at h;rcases ha:iC tm args.toList with _|us;simp[ha]at h;obtain⟨vs,a1,a2⟩:=DA ht ha;rcases us with _|⟨a,l⟩;simp[ha]at h;obtain⟨va,vs',rfl,r1,r2⟩:=a2.inv;simp only[ha]at h;rcases h1:toV a with _|v1;simp[h1]at h;rcases h2:j0 l with _|v2;simp[h1,h2]at h;simp only[h1,h2]at h;have e1:=(oN a v1 h1 x va).1 r1;have e2:=(QK l v2 h2 x vs').1 r2;subst e1;subst e2;rcases h3:pM FE va vs' with _|r;simp[h3]at h;simp only[h3]at h;exact one r (by simp[eF,a1,h3]) ((B7 r u h).2 x)
   |_=>simp at h
  |_=>simp at h
 |_=>simp at h
theorem VN{T:Tb}{x:Cx}{kt:TypeId}{k:Value}:∀{es:List ME}{vs:List MapEntry}(i:Nat){r:Option (Nat×U)},jG x es vs->tG T kt k es i=some r->
  (r=none/\kE T kt k vs i=some none)\/∃j u v,r=some (j,u)/\kE T kt k vs i=some (some (j,v))/\aA x u v/\i<=j/\∃e e',es[j-i]? = some e/\e.val=u/\vs[j-i]? = some e'/\aA x e.key e'.key/\e'.born=e.born/\e'.val=v
 |[],vs,i,r,hm,h=>by
  simp only[tG,zA]at h;subst h;have:vs=[]:=by have:=hm.1;simpa using this.symm
  subst this;exact .inl ⟨rfl,rfl⟩
 |e::es,[],i,r,hm,h=>by have:=hm.1;simp at this
 |e::es,e'::vs,i,r,hm,h=>by
  obtain⟨v0,q0,q1,q2,q3⟩:=hm.2 0 e rfl;simp at q0;subst q0;have hm':jG x es vs:=⟨by have:=hm.1;simpa using this,fun j d hd=>by simpa using hm.2 (j+1) d (by simpa using hd)⟩;simp only[tG]at h;rcases hk:toV e.key with _|k';simp[hk]at h;simp only[hk]at h;have ek:=(oN _ _ hk x _).1 q1;rcases he:eqv T 50 kt k k' with _|b;simp[he]at h;cases b with
  |true=>simp only[he,zA]at h;subst h;exact .inr ⟨i,e.val,e'.val,rfl,by simp[kE,ek,he],q2,zF _,e,e',by simp,rfl,by simp,q1,q3,rfl⟩|false=>simp only[he]at h;rcases VN (i+1) hm' h with⟨h1,h2⟩|⟨j,u,v,h1,h2,h3,h4,d,d',h5,h6,h7,h8⟩;exact .inl ⟨h1,by simp[kE,ek,he,h2]⟩;refine .inr ⟨j,u,v,h1,by simp[kE,ek,he,h2],h3,by omega,d,d',?_,h6,?_,h8⟩;rw[show j-i=(j-(i+1))+1 by omega];simpa using h5;rw[show j-i=(j-(i+1))+1 by omega];simpa using h7
theorem Zw{l:List U}{off:Nat}{lv:List Value}(h:uY T t l off=some u)(hl:bN x l lv)(hk:okL l=true):
  ∃v,(match T.und t with
    |none=>none|some d=>cond (kQ d) (match bJ T t with
      |some n=>match nS lv off n with
       |some cs=>some (.agg cs.toArray)|none=>none
      |none=>none) (nth lv off))=some v/\aA x u v:=by
 unfold uY at h;rcases hd:T.und t with _|d;simp[hd]at h;simp only[hd]at h ⊢;cases ha:kQ d with
 |true=>
  simp only[ha,zC]at h ⊢;rcases hs:bJ T t with _|n;simp[hs]at h;simp only[hs]at h ⊢;rcases hg:fI l off n with _|cs;simp[hg]at h;simp only[hg,zA]at h;subst h;obtain⟨h1,rfl⟩:=FY hg;have hlen:=bN.len hl;rw[UE (by omega)];refine⟨_,rfl,?_⟩;simp only[aA];have:=(hl.drop off).takeE;have e1:aQ x ((l.drop off).take n) ((lv.drop off).take n):=by refine aQ.mk' (by simp;omega) fun i u hu=>?_;rw[List.getElem?_take]at hu ⊢;split at hu;rename_i hlt;simp only[hlt,if_true];exact(wS x _ _).1 (hl.drop off) i u hu;cases hu
  exact⟨_,rfl,e1.1,e1.2,FT (vB hk _) _⟩
 |false=>simp only[ha,zD,eR]at h ⊢;exact(wS x _ _).1 hl _ _ h
theorem jf(hx:eQ x){k st:Nat}{l:List U}(h:cellsOf x.σ k st=some l){off:Nat}{v:Value}(hr:aA x (.ptr k st off) v):
  ∃i lv e md,x.ρ k=some i/\v=.pointer (some ⟨i,off,none⟩)/\lk x.s.h i=some (.inl (lv,e,md))/\md≠1/\aQ x l lv/\okL l=true/\
   ((md=0/\gt x.σ.h k=some (.row l e))\/(∃sz,md=sz+2/\0<sz/\gt x.σ.h k=some (.vec l e sz st))):=by
 unfold cellsOf at h;rcases hg:gt x.σ.h k with _|b;simp[hg]at h;cases b with
 |row l' e=>simp only[hg,beq_eq]at h;by_cases hst:0=st;subst hst;simp at h;subst h;obtain⟨i,hi,rfl⟩:=KU (x:=x) (by simp[live,hg,B.st]) hr;obtain⟨_,k1,i',lv,e1,e2,e3⟩:=hx.ok k _ hg;rw[hi]at e1;cases e1;exact⟨i,lv,e,0,hi,rfl,e2,by omega,e3,k1,.inl ⟨rfl,rfl⟩⟩;simp[hst]at h
 |vec l' e sz st'=>simp only[hg,beq_eq]at h;by_cases hst:st'=st;subst hst;simp at h;subst h;obtain⟨i,hi,rfl⟩:=KU (x:=x) (by simp[live,hg,B.st]) hr;obtain⟨_,k1,k2,h3⟩:=hx.ok k _ hg;rcases h3 with⟨h4,h5⟩|⟨i',lv,e1,e2,e3⟩;rw[hi]at h5;cases h5;rw[hi]at e1;cases e1;exact⟨i,lv,e,sz+2,hi,rfl,e2,by omega,e3,k1,.inr ⟨sz,rfl,k2,rfl⟩⟩;simp[hst]at h
 |map es cl=>simp[hg]at h
theorem Zb(hx:eQ x){tm:List U}{tv:List Value}(ht:aQ x tm tv){op:Op}(h:kN T x.σ tm op=some u):kH T x tv op u x.σ:=by
 unfold kN at h;cases op with
 |load t o=>
  simp only at h;rcases ho:bD tm o with _|a;simp[ho]at h;obtain⟨va,a1,a2⟩:=dP ht ho;cases a with
  |ptr k st off=>simp only[ho]at h;rcases hc:cellsOf x.σ k st with _|l;simp[hc]at h;simp only[hc]at h;obtain⟨i,lv,e,md,q1,rfl,q2,_,q3,q4,_⟩:=jf hx hc a2;obtain⟨v,r1,r2⟩:=Zw h q3.1 q4;exact kH.same hx (VF (by simp[eF]) (by simp only[iV,a1,q2];exact r1)) r2
  |iptr l=>
   simp only[ho]at h;simp only[aA]at a2;obtain⟨i,off,row,e,rfl,g1,g2,g3⟩:=a2;obtain⟨v,r1,r2⟩:=Zw h g2 g3;refine kH.same hx (VF (by simp[eF]) (v:=v) ?_) r2;simp only[iV,a1,g1];rcases hd:T.und t with _|d;simp[hd]at r1;simp only[hd]at r1 ⊢;cases ha:kQ d with
   |true=>simp only[ha,zC]at r1 ⊢;rcases hs:bJ T t with _|n;simp[hs]at r1;simp only[hs,nS,List.drop_drop,Nat.add_zero]at r1 ⊢;exact r1
   |false=>simp only[ha,zD,eR,List.getElem?_drop,Nat.add_zero]at r1 ⊢;exact r1
  |_=>simp[ho]at h
 |lookup t a b ok=>
  simp only at h;rcases hd:T.und t with _|d;simp[hd]at h;cases d with
  |map kt et=>
   rcases ha:bD tm a with _|m;simp[hd,ha]at h;rcases hb:bD tm b with _|ku;simp[hd,ha,hb]at h;simp only[hd,ha,hb]at h;obtain⟨va,a1,a2⟩:=dP ht ha;obtain⟨vb,b1,b2⟩:=dP ht hb;rcases hk:toV ku with _|kv;simp[hk]at h;simp only[hk]at h;have ekv:=(oN _ _ hk x vb).1 b2;subst ekv;rcases hkey:jX T 50 kt vb with _|_;simp[hkey]at h;simp only[hkey,zC]at h;have key:∀ (es:List ME) (vs:List MapEntry),(va = .map none/\vs=[]\/∃ i cl,va = .map (some i)/\lk x.s.h i=some (.inr (vs,cl)))->jG x es vs->(match tG T kt vb es 0 with
      |none=>none|some (some (_,v))=>some (cond ok (.tup [v,.bool true]) v)
      |some none=>match T.inf et with
       |some (_,_,z)=>(match eT z with
        |some zu=>some (cond ok (.tup [zu,.bool false]) zu)|none=>none)
       |none=>none)=some u->kH T x tv (.lookup t a b ok) u x.σ:=by
    intro es vs e1 e3 h;have fin:∀v,iV T tv x.s (.lookup t a b ok)=some v->aA x u v->kH T x tv (.lookup t a b ok) u x.σ:=fun v h1 h2=>kH.same hx (VF (by simp[eF]) h1) h2;have w4:∀(p:U)(q:Value)(bb:Bool),aA x p q->aA x (cond ok (.tup [p,.bool bb]) p) (cond ok (.tuple #[q,.bool bb]) q):=fun p q bb hpq=>by rcases ok with _|_;exact hpq;simp only[zC,aA];exact⟨[q,.bool bb],rfl,by simp[bN,hpq,aA],rfl⟩
    rcases hf:tG T kt vb es 0 with _|r';simp[hf]at h;rcases VN 0 e3 hf with⟨rfl,h2⟩|⟨j,w,v,rfl,h2,h3,_⟩;simp only[hf]at h;rcases hi:T.inf et with _|q;simp[hi]at h;obtain⟨q1,q2,z⟩:=q;simp only[hi]at h;rcases hz:eT z with _|zu;simp[hz]at h;simp only[hz,zA]at h;subst h;have hrd:iV T tv x.s (.lookup t a b ok)=some (cond ok (.tuple #[z,.bool false]) z):=by rcases e1 with⟨rfl,rfl⟩|⟨i,cl,rfl,e1⟩;simp only[iV,hd,a1,b1,hkey,zC,h2,hi];simp only[iV,hd,a1,b1,hkey,zC,e1,h2,hi]
    exact fin _ hrd (w4 _ _ _ ((B7 _ _ hz).2 x));simp only[hf,zA]at h;subst h;have hrd:iV T tv x.s (.lookup t a b ok)=some (cond ok (.tuple #[v,.bool true]) v):=by rcases e1 with⟨rfl,rfl⟩|⟨i,cl,rfl,e1⟩;simp only[iV,hd,a1,b1,hkey,zC,h2];simp only[iV,hd,a1,b1,hkey,zC,e1,h2]
    exact fin _ hrd (w4 _ _ _ h3)
   cases m with
   |nilm=>simp only[aA]at a2;exact key [] [] (.inl ⟨a2,rfl⟩) ⟨rfl,by simp⟩ h|map r=>
    simp only at h;rcases hg:gt x.σ.h r with _|bb;simp[hg]at h;cases bb with
    |map es cl=>simp only[hg]at h;obtain⟨i,hi,rfl⟩:=Du (x:=x) (by simp[live,hg,B.st]) a2;obtain⟨_,i',es',e1,e2,e3⟩:=hx.ok r _ hg;rw[hi]at e1;cases e1;exact key es es' (.inr ⟨i,cl,rfl,e2⟩) e3 h
    |_=>simp[hg]at h
   |_=>simp at h
  |_=>simp[hd]at h
 |_=>simp at h
variable{x:Cx}
variable{k:Nat}
variable{b:B}
theorem iZ.mono{y:Cx}(h:iZ x k b)(hm:Mo x.σ.nx x y)(hρ:y.ρ k=x.ρ k)(hl:∀i c,x.ρ k=some i->lk x.s.h i=some c->lk y.s.h i=some c):iZ y k b:=by
 have relm:∀{es:List ME}{es':List MapEntry},jG x es es'->jG y es es':=fun{es es'} e3=>⟨e3.1,fun j e he=>by obtain⟨v,q1,q2,q3,q4⟩:=e3.2 j e he;exact⟨v,q1,hm.ke _ _ (aA.bel _ _ q2) q2,hm.ke _ _ (aA.bel _ _ q3) q3,q4⟩⟩;cases b with
 |row l e=>obtain⟨k1,i,l',e1,e2,e3⟩:=h;exact⟨k1,i,l',by rw[hρ,e1],hl _ _ e1 e2,hm.ke.E e3.bel e3⟩
 |vec l e sz st=>obtain⟨k1,k2,h3⟩:=h;refine⟨k1,k2,?_⟩;rcases h3 with⟨h3,h4⟩|⟨i,l',e1,e2,e3⟩;exact .inl ⟨h3,by rw[hρ,h4]⟩;exact .inr ⟨i,l',by rw[hρ,e1],hl _ _ e1 e2,hm.ke.E e3.bel e3⟩
 |map es cl=>obtain⟨i,es',e1,e2,e3⟩:=h;exact⟨i,es',by rw[hρ,e1],hl _ _ e1 e2,relm e3⟩
theorem iZ.not1{i:Nat}(h:iZ x k b)(hi:x.ρ k=some i){row:List Value}{e:TypeId}:lk x.s.h i≠some (.inl (row,e,1)):=by
 intro hl;cases b with
 |row l e'=>obtain⟨_,i',l',e1,e2,_⟩:=h;rw[hi]at e1;cases e1;rw[hl]at e2;cases e2
 |vec l e' sz st=>obtain⟨_,_,h3⟩:=h;rcases h3 with⟨_,h4⟩|⟨i',l',e1,e2,_⟩;rw[hi]at h4;cases h4;rw[hi]at e1;cases e1;rw[hl]at e2;cases e2
 |map es cl=>obtain⟨i',es',e1,e2,_⟩:=h;rw[hi]at e1;cases e1;rw[hl]at e2;cases e2
theorem step1{y:Cx}(hx:eQ x)(K:Nat)(bK:B)(hn:x.σ.nx<=y.σ.nx)(hK:K<y.σ.nx)(hother:∀k,k≠K->gt y.σ.h k=gt x.σ.h k/\y.ρ k=x.ρ k)(hnew:gt y.σ.h K=some bK)
  (hold:(∃b0,gt x.σ.h K=some b0/\b0.st<=bK.st/\(b0.st=bK.st->y.ρ K=x.ρ K/\∀l e sz st,b0=.vec l e sz st->∃l',bK=.vec l' e sz st))\/(gt x.σ.h K=none/\x.σ.nx<=K))
  (hrows:∀i b,lk x.s.h i=some b->(∀c,gt x.σ.h K=some c->x.ρ K≠some i)->lk y.s.h i=some b)
  (hfresh:∀i,y.ρ K=some i->(∃c,gt x.σ.h K=some c/\x.ρ K=some i)\/x.s.nx<=i) (hbd:∀i b,lk y.s.h i=some b->i<y.s.nx) (hB:Mo x.σ.nx x y->iZ y K bK):Out x y:=by
 have hmo:Mo x.σ.nx x y:=by refine⟨fun k hk _=>⟨by omega,fun b' hb'=>?_⟩,fun i row e hl=>hrows i _ hl fun c hc he=>(hx.ok K c hc).2.not1 he hl⟩;by_cases e:k=K;subst e;rw[hnew]at hb';cases hb';rcases hold with⟨b0,h1,h2,h3⟩|⟨_,h2⟩;exact⟨b0,h1,h2,h3⟩;omega;obtain⟨h1,h2⟩:=hother k e;exact⟨b',by rw[<-h1,hb'],zF _,fun _=>⟨h2,fun l e sz st h=>⟨l,h⟩⟩⟩
 have hne:∀k b i c,k≠K->gt x.σ.h k=some b->x.ρ k=some i->gt x.σ.h K=some c->x.ρ K≠some i:=fun k b i c hk hb hi hc he=>hk (hx.inj k K b c i hb hc hi he);refine⟨⟨fun k b hb=>?_,fun k k' b b' i hb hb' hi hi'=>?_,hbd⟩,hmo,fun F J i b hb=>?_⟩;by_cases e:k=K;subst e;rw[hnew]at hb;cases hb;exact⟨hK,hB hmo⟩;obtain⟨h1,h2⟩:=hother k e;rw[h1]at hb;obtain⟨h3,h4⟩:=hx.ok k b hb;exact⟨by omega,h4.mono hmo h2 fun i c hi hl=>hrows i c hl fun d hd=>hne k b i d e hb hi hd⟩;have own:∀k b i,k≠K->gt y.σ.h k=some b->y.ρ k=some i->gt x.σ.h k=some b/\x.ρ k=some i/\i<x.s.nx:=fun k b i e hb hi=>by
  obtain⟨h1,h2⟩:=hother k e;rw[h1]at hb;rw[h2]at hi;refine⟨hb,hi,?_⟩;have:=(hx.ok k b hb).2;cases b with
  |row l e=>obtain⟨_,i',l',e1,e2,_⟩:=this;rw[hi]at e1;cases e1;exact hx.bd _ _ e2
  |vec l e' sz st=>obtain⟨_,_,h3⟩:=this;rcases h3 with⟨_,h4⟩|⟨i',l',e1,e2,_⟩;rw[hi]at h4;cases h4;rw[hi]at e1;cases e1;exact hx.bd _ _ e2
  |map es cl=>obtain⟨i',es',e1,e2,_⟩:=this;rw[hi]at e1;cases e1;exact hx.bd _ _ e2
 by_cases e:k=K;by_cases e':k'=K;rw[e,e'];exfalso;subst e;obtain⟨q1,q2,q3⟩:=own k' b' i e' hb' hi';rcases hfresh i hi with⟨c,hc,hc'⟩|hge;exact e' (hx.inj k' k b' c i q1 hc q2 hc');omega;by_cases e':k'=K;exfalso;subst e';obtain⟨q1,q2,q3⟩:=own k b i e hb hi;rcases hfresh i hi' with⟨c,hc,hc'⟩|hge;exact e (hx.inj k k' b c i q1 hc q2 hc');omega;obtain⟨q1,q2,_⟩:=own k b i e hb hi;obtain⟨q3,q4,_⟩:=own k' b' i e' hb' hi';exact hx.inj k k' b b' i q1 q3 q2 q4;obtain⟨h1,h2⟩:=J i b hb;refine⟨hrows i b h1 fun c hc=>h2 K c hc,fun k c hc hi=>?_⟩;by_cases e:k=K;subst e;rcases hfresh i hi with⟨d,hd,hd'⟩|hge;exact h2 k d hd hd';have:=hx.bd i b h1;omega;obtain⟨q1,q2⟩:=hother k e;rw[q1]at hc;rw[q2]at hi;exact h2 k c hc hi
def hJ(ρ:Nat->Option Nat)(k:Nat)(o:Option Nat):Nat->Option Nat:=fun j=>if j=k then o else ρ j
theorem Pj(ρ:Nat->Option Nat)(k:Nat)(o:Option Nat):hJ ρ k o k=o:=by simp[hJ]
theorem Mv(ρ:Nat->Option Nat){j:Nat}(o:Option Nat)(h:j≠k):hJ ρ k o j=ρ j:=by simp[hJ,h]
theorem H4(hx:eQ x):gt x.σ.h x.σ.nx=none:=by
 rcases h:gt x.σ.h x.σ.nx with _|b;rfl;have:=(hx.ok _ b h).1;omega
theorem Ok(hx:eQ x)(b:B)(c:i5)(hB:∀y:Cx,y.ρ x.σ.nx=some x.s.nx->lk y.s.h x.s.nx=some c->Mo x.σ.nx x y->iZ y x.σ.nx b):
  Out x ⟨hJ x.ρ x.σ.nx (some x.s.nx),newU x.σ b,⟨(x.s.nx,c)::x.s.h,x.s.nx+1⟩⟩:=by
 refine step1 hx x.σ.nx b (by simp[newU]) (by simp[newU]) (fun k hk=>⟨by simp[newU,aK,Ne.symm hk],Mv _ _ hk⟩) (by simp[newU,aK]) (.inr ⟨H4 hx,zF _⟩) (fun i d hd _=>?_) (fun i hi=>?_) (fun i d hd=>?_) (fun hm=>?_);have:=hx.bd i d hd;simp[iD,show x.s.nx≠i by omega,hd];change hJ _ _ _ _=some i at hi;rw[Pj]at hi;cases hi;exact .inr (zF _);simp only[iD]at hd;split at hd;show i<x.s.nx+1;omega;exact Nat.lt_succ_of_lt (hx.bd i d hd);exact hB _ (by simp[hJ]) (by simp[iD]) hm
theorem Pi(hx:eQ x)(e:TypeId)(sz:Nat)(hsz:0<sz):Out x ⟨hJ x.ρ x.σ.nx none,newU x.σ (.vec [] e sz 0),x.s⟩:=by
 refine step1 hx x.σ.nx (.vec [] e sz 0) (by simp[newU]) (by simp[newU]) (fun k hk=>⟨by simp[newU,aK,Ne.symm hk],Mv _ _ hk⟩) (by simp[newU,aK]) (.inr ⟨H4 hx,zF _⟩) (fun i d hd _=>hd) (fun i hi=>?_) hx.bd (fun hm=>?_);change hJ _ _ _ _=some i at hi;rw[Pj]at hi;cases hi;exact⟨rfl,hsz,.inl ⟨rfl,by simp[hJ]⟩⟩
theorem UX{c:i5}{st:Nat}(hst:b.st=st){p:Option Nat->Prop}(hp:p (some x.s.nx)):Ref ⟨hJ x.ρ x.σ.nx (some x.s.nx),newU x.σ b,⟨(x.s.nx,c)::x.s.h,x.s.nx+1⟩⟩ x.σ.nx st p:=by
 refine⟨by simp[newU],fun b' hb'=>?_⟩;simp only[newU,aK,if_true,zA]at hb';subst hb';exact⟨Nat.le_of_eq hst.symm,fun _=>by simpa[hJ]using hp⟩
theorem QL(hx:eQ x){K i:Nat}{b0 bK:B}{c:i5}(h0:gt x.σ.h K=some b0)(hi:x.ρ K=some i){c0:i5}(y7:lk x.s.h i=some c0)(hst:b0.st=bK.st)(hv:∀l e sz st,b0=.vec l e sz st->∃l',bK=.vec l' e sz st)
  (hB:∀y:Cx,y.ρ K=some i->lk y.s.h i=some c->Mo x.σ.nx x y->iZ y K bK):Out x ⟨x.ρ,⟨ug x.σ.h K bK,x.σ.nx⟩,⟨up x.s.h i c,x.s.nx⟩⟩:=by
 refine step1 hx K bK (zF _) (hx.ok K _ h0).1 (fun k hk=>⟨by simp[bL,Ne.symm hk],rfl⟩) (by simp[bL,h0]) (.inl ⟨b0,h0,Nat.le_of_eq hst,fun _=>⟨rfl,hv⟩⟩) (fun j d hd hne=>?_) (fun j hj=>.inl ⟨b0,h0,hj⟩) (fun j d hd=>?_) (fun hm=>?_);have:i≠j:=fun e=>hne b0 h0 (by rw[hi,e]);simp[tF,this,hd];simp only[tF]at hd;split at hd;rename_i e;subst e;exact hx.bd i _ y7;exact hx.bd j d hd;exact hB _ hi (by simp[tF,y7]) hm
theorem QW{zu:List U}{z:List Value}(h:aQ x zu z)(n:Nat):aQ x (lX zu n) (bI z n):=by
 induction n with|zero=>exact aQ.nil x|succ n ih=>simp only[lX,List.replicate_succ,List.flatten_cons,bI];exact h.append ih
theorem Og{zu:List U}(h:okL zu=true)(n:Nat):okL (lX zu n)=true:=by
 induction n with|zero=>rfl|succ n ih=>simp only[lX,List.replicate_succ,List.flatten_cons];exact DC h ih
section
variable{T:Tb}{x:Cx}(hx:eQ x){tm:List U}{tv:List Value}(ht:aQ x tm tv)
include hx
theorem Ev{l:List U}{l':List Value}(hl:aQ x l l')(hk:okL l=true)(e:TypeId):Out x ⟨hJ x.ρ x.σ.nx (some x.s.nx),newU x.σ (.row l e),Rx.newRow x.s l' e 0⟩:=
 Ok hx (.row l e) (.inl (l',e,0)) fun y h1 h2 hm=>⟨hk,x.s.nx,l',h1,h2,hm.ke.E hl.bel hl⟩
theorem Eu{l:List U}{l':List Value}(hl:aQ x l l')(hk:okL l=true)(e:TypeId){sz:Nat}(hsz:0<sz):Out x ⟨hJ x.ρ x.σ.nx (some x.s.nx),newU x.σ (.vec l e sz 0),Rx.newRow x.s l' e (sz+2)⟩:=
 Ok hx (.vec l e sz 0) (.inl (l',e,sz+2)) fun y h1 h2 hm=>⟨hk,hsz,.inr ⟨x.s.nx,l',h1,h2,hm.ke.E hl.bel hl⟩⟩
variable{t:TypeId}
variable{r:U}
variable{σ':Sg}
theorem ce{p u:U}{pv uv:Value}(h:KH T x.σ t p u=some (r,σ'))(hp:aA x p pv)(hu:aA x u uv):
  ∃v y,PO T x.s t pv uv=some (v,y.s)/\y.σ=σ'/\aA y r v/\Out x y:=by
 unfold KH at h;cases p with
 |ptr k st off=>
  simp only at h;rcases hs:bJ T t with _|n;simp[hs]at h;simp only[hs]at h;rcases hc:o0 u with _|cs;simp[hc]at h;simp only[hc]at h;obtain⟨c1,c2⟩:=Pw hu hc;rcases hlen:Nat.beq cs.length n with _|_;simp[hlen]at h;simp only[hlen,zC,c2]at h;rcases hrow:cellsOf x.σ k st with _|l;simp[hrow]at h;simp only[hrow]at h;obtain⟨i,lv,e,md,q1,rfl,q2,q3,q4,q5,q6⟩:=jf hx hrow hp;have i_:=ye (σ:=x.σ) (k:=k) c1;have h_:okL (uO x.σ k cs)=true:=by rw[IW];exact c2
  rcases hput:jW l off (uO x.σ k cs)with _|l1;simp[hput]at h;simp only[hput]at h;obtain⟨rv,p1,p2,p3⟩:=De hput q4 i_;have p4:=p3 q5 h_;have hst:PO T x.s t (.pointer (some ⟨i,off,none⟩)) uv=some (undef,⟨up x.s.h i (.inl (rv,e,md)),x.s.nx⟩):=by
   have hown:bR x.s i=some (lv,e,md):=by unfold bR;rcases q6 with⟨rfl,_⟩|⟨sz,rfl,_⟩<;>simp[q2]
   simp only[PO,hs];rw[<-c1.2,hlen];simp only[zC,FZ c1 c2,hown,p1]
  rcases q6 with⟨rfl,hg⟩|⟨sz,rfl,hz,hg⟩;simp only[B3,hg,zA,zB]at h;obtain⟨rfl,rfl⟩:=h;exact⟨undef,⟨x.ρ,⟨ug x.σ.h k (.row l1 e),x.σ.nx⟩,⟨up x.s.h i (.inl (rv,e,0)),x.s.nx⟩⟩,hst,rfl,by simp[aA],QL hx hg q1 q2 rfl (by simp) fun y h1 h2 hm=>⟨p4,i,rv,h1,h2,hm.ke.E p2.bel p2⟩⟩;simp only[B3,hg,zA,zB]at h;obtain⟨rfl,rfl⟩:=h;exact⟨undef,⟨x.ρ,⟨ug x.σ.h k (.vec l1 e sz st),x.σ.nx⟩,⟨up x.s.h i (.inl (rv,e,sz+2)),x.s.nx⟩⟩,hst,rfl,by simp[aA],QL hx hg q1 q2 rfl (by rintro l e sz st h;cases h;exact⟨_,rfl⟩) fun y h1 h2 hm=>⟨p4,hz,.inr ⟨i,rv,h1,h2,hm.ke.E p2.bel p2⟩⟩⟩
 |_=>simp at h
theorem fe{n:Nat}{ps:List (Nat×U)}{pv:List (Nat×Value)}(h:VV T x.σ t n ps=some (r,σ'))(hp:KG x ps pv):∃v y,VU T x.s t n pv=some (v,y.s)/\y.σ=σ'/\aA y r v/\Out x y:=by
 unfold VV at h;rcases hd:T.und t with _|d;simp[hd]at h;cases d with
 |slice e=>
  simp only[hd]at h;rcases hi:T.inf e with _|q;simp[hi]at h;obtain⟨sz,by_,z⟩:=q;simp only[hi]at h;rcases h1:Nat.ble (n*sz) 16777216 with _|_;simp[h1]at h;simp only[h1,zC]at h;rcases h2:Nat.ble n 16777216 with _|_;simp[h2]at h;simp only[h2,zC]at h;rcases h3:Nat.beq z.cells.toList.length sz with _|_;simp only[h3,zD]at h;cases h;simp only[h3,zC]at h;rcases h4:jF z.cells.toList with _|zu;simp[h4]at h;simp only[h4]at h;have hzr:=(D0 _ _ h4).2 x;rcases h5:lH (fun i=>some (i*sz,sz)) (lX zu n) ps with _|cs;simp[h5]at h;simp only[h5]at h;rcases h6:okL cs with _|_;simp[h6]at h;simp only[h6,zC,zA,zB]at h;obtain⟨rfl,rfl⟩:=h;obtain⟨rv,f1,f2⟩:=VO hp (QW hzr n) h5;have hcap:n<b7:=by have:=zY h2;unfold b7;omega
  refine⟨.slice (some ⟨x.s.nx,0,none⟩) n n,_,?_,rfl,?_,Ev hx f2 h6 e⟩;simp only[VU,hd,hi,h1,h3,zC,f1,kF hcap];simp only[aA];exact⟨rfl,UX rfl ⟨x.s.nx,rfl,rfl,hcap,zF _⟩⟩
 |_=>simp[hd]at h
theorem ss{a b:U}{va vb:Value}(h:U5 T x.σ t a b=some (r,σ'))(ha:aA x a va)(hb:aA x b vb):∃v y,U4 T x.s t va vb=some (v,y.s)/\y.σ=σ'/\aA y r v/\Out x y:=by
 unfold U5 at h;rcases hd:T.und t with _|d;simp[hd]at h;cases d with
 |slice e=>
  cases a with
  |int ka a=>
   cases b with
   |int kb b=>
    simp only[aA]at ha hb;subst ha;subst hb;simp only[hd]at h;rcases hi:T.inf e with _|q;simp[hi]at h;obtain⟨sz,by_,z⟩:=q;simp only[hi]at h;rcases h4:jF z.cells.toList with _|zu;simp[h4]at h;simp only[h4]at h;have hzr:=(D0 _ _ h4).2 x;rcases h6:okL zu with _|_;simp[h6]at h;simp only[h6,zC]at h;rcases h3:Nat.beq z.cells.toList.length sz with _|_;simp only[h3,zD]at h;cases h;simp only[h3,zC]at h;split at h;rename_i hc;simp only[zA,zB]at h;obtain⟨rfl,rfl⟩:=h;obtain⟨c1,c2,c3,c4⟩:=hc;have hwa:IntKind.i64.wrap a=Int.ofNat a.toNat:=by rw[kR (by omega) (by omega)];simp;omega
    have hwb:IntKind.i64.wrap b=Int.ofNat b.toNat:=by rw[kR (by omega) (by omega)];simp;omega
    have hcap:b.toNat<b7:=by unfold b7;omega
    refine⟨.slice (some ⟨x.s.nx,0,none⟩) a.toNat b.toNat,_,?_,rfl,?_,Ev hx (QW (UR hzr) b.toNat) (Og (by rw[PM];exact h6) _) e⟩;simp only[U4,hd,hi,hwa,hwb,h3,zC,kF hcap,Nat.ble_eq_true_of_le c3,Nat.ble_eq_true_of_le (show a.toNat<=b.toNat by omega)];simp only[aA];exact⟨rfl,UX rfl ⟨x.s.nx,rfl,rfl,hcap,by omega⟩⟩;cases h
   |_=>simp[hd]at h
  |_=>simp[hd]at h
 |_=>simp[hd]at h
end
end Go.Vx
