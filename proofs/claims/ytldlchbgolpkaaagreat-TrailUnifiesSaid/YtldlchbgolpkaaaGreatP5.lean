/-
  Texts of the walk: RxO VxA VxC VxD.
-/
import Derived.IntWalk
import Derived.Test.YtldlchbgolpkaaaGreatP4
set_option linter.unusedSimpArgs false
set_option linter.unusedVariables false
section
namespace Go.Rx
open Go
def WP (P:Program) (c:Code) (tm:List Value) (s:S) (Q:Exit→List Value→S→Prop):Prop :=
 ∀ m w a,q48 m s w→qqq m s.nx tm a→a.defers=[] →
  c.wp P (fun e a' w'=>∃ m' tm' s',Q e tm' s'∧Adv m s w m' s' w'∧qqq m' s'.nx tm' a'∧a'.defers=[]) a w
def Less (s s':S):Prop:=s.nx≤s'.nx∧∀ i b,lk s'.h i=some b→lk s.h i=some b
theorem Adv.less {m:Nm} {s s':S} {w:World} (h:q48 m s w) (hl:Less s s'):Adv m s w m s' w:=by
 refine ⟨Agree.refl _ _,hl.1,fun m' ha=>?_,?_,fun _ _ _=>rfl,zF _,rfl,rfl,rfl⟩
 ·have hf:=h m' (ha.mono hl.1)
  exact ⟨fun i b hb=>hf.ok i b (hl.2 i b hb),fun i j b c hb hc=>hf.inj i j b c (hl.2 i b hb) (hl.2 j c hc),fun i b hb=>Nat.lt_of_lt_of_le (hf.bd i b (hl.2 i b hb)) hl.1⟩
 ·rintro k ⟨j,d,hd,ho,rfl⟩
  exact .inl ⟨j,d,hl.2 j d hd,ho,rfl⟩
theorem wrap_i64 {x:Int} (h1 : -9223372036854775808≤x) (h2:x≤9223372036854775807):IntKind.i64.wrap x=x:=IntWalk.i64_in x ⟨h1,h2⟩
section
variable {P:Program} {Q:Exit→List Value→S→Prop} {tm:List Value} {s:S}
theorem WP.exit {id:Nat} (h:Q (.exit id) tm s):WP P (.exit id) tm s Q:=fun m _ _ hf ha hd=>wp_exit ⟨m,tm,s,h,Adv.refl hf,ha,hd⟩
def quv (id:Nat) (Q:Exit→List Value→S→Prop):Exit→List Value→S→Prop
 | .exit id',tm,s=>if id'=id then Q .normal tm s else Q (.exit id') tm s
 | e,tm,s=>Q e tm s
theorem WP.block {id:Nat} {c:Code} (h:WP P c tm s (quv id Q)):WP P (.block id c) tm s Q:=fun m w a hf ha hd=>by
 refine wp_block (wp_mono (h m w a hf ha hd) ?_)
 rintro e a' w' ⟨m',tm',s',h1,h2,h3,h4⟩
 cases e with
 | exit id' =>
  simp only [Exit.inBlock]
  simp only [quv] at h1
  by_cases hid:id'=id
  ·simp only [hid,if_true] at h1 ⊢; exact ⟨m',tm',s',h1,h2,h3,h4⟩
  ·simp only [hid,if_false] at h1 ⊢; exact ⟨m',tm',s',h1,h2,h3,h4⟩
 | _=>exact ⟨m',tm',s',h1,h2,h3,h4⟩
variable {T:Tb} (hT:qfp P T) {call:qib} (hC:qoc P call)
include hT hC
end
def p0 (tm:List Value) (op:Op):Option Value :=
 match op with
 | .move x=>evalO tm x
 | .assign x=>evalO tm x
 | .pick c a b=>match evalO tm c with
  | some (.bool true)=>evalO tm a
  | some (.bool false)=>evalO tm b
  | _=>none
 | .nilCheck x=>match evalO tm x with
  | some (.pointer (some a))=>some (.pointer (some a))
  | _=>none
 | .binOp op _ x y _=>match evalO tm x,evalO tm y with
  | some (.int k a),some (.int k' b)=>qfg op k a k' b
  | _,_=>none
 | .unOp op _ x=>match evalO tm x with
  | some a=>unX op a
  | none=>none
 | .makeFunc fn first cap=>match q6o tm first.toList,q6o tm cap.toList with
  | some a,some b=>some (.func fn a.toArray b.toArray)
  | _,_=>none
 | .extract x i=>match evalO tm x with
  | some a=>qgj a i
  | none=>none
 | .call c=>match c.callee with
  | .builtin .max=>match q6o tm c.args.toList with
   | some (x::l)=>qh3 qtq x l
   | _=>none
  | .builtin .min=>match q6o tm c.args.toList with
   | some (x::l)=>qh3 qrz x l
   | _=>none
  | _=>none
 | _=>none
section
variable {T:Tb} {call:qib} {ops rest:List Oper} {o:Oper} {tm:List Value} {s:S} {K:List Value→S→Prop}
end
section
variable {P:Program} {Q:Exit→List Value→S→Prop} {tm:List Value} {s:S} {T:Tb} (hT:qfp P T) {call:qib} (hC:qoc P call)
include hT hC
end
end Go.Rx
end
section
namespace Go.Vx
open Go Go.Rx
inductive U where
 | junk
 | bool (b:Bool)
 | int (k:IntKind) (n:Int)
 | str (s:List UInt8)
 | nilp
 | ptr (k st off:Nat)
 | iptr (l:List U)
 | nils
 | sl (k off n c:Nat)
 | vl (k st off n:Nat)
 | isl (t:Bool) (l:List (List U))
 | nilm
 | map (k:Nat)
 | fn (f:Fn) (first cap:List U)
 | nilf
 | nili
 | agg (l:List U)
 | tup (l:List U)
 deriving Inhabited
def okC:U→Bool
 | .junk=>false
 | .agg _=>false
 | .tup _=>false
 | _=>true
def okL:List U→Bool
 | []=>true
 | u::l=>cond (okC u) (okL l) false
theorem qf1 (l:List U):okL l=true↔∀ u∈l,okC u=true:=by
 induction l with
 | nil=>simp [okL]
 | cons u l ih=>cases h:okC u<;>simp [okL,h,ih]
structure ME where
 key:U
 val:U
 born:Nat
inductive B where
 | row (l:List U) (e:TypeId)
 | vec (l:List U) (e:TypeId) (sz st:Nat)
 | map (es:List ME) (cl:Nat)
structure Sg where
 h:List (Nat×B)
 nx:Nat
def gt:List (Nat×B)→Nat→Option B
 | [],_=>none
 | (j,b)::h,i=>cond (Nat.beq j i) (some b) (gt h i)
def ug:List (Nat×B)→Nat→B→List (Nat×B)
 | [],_,_=>[]
 | (j,b)::h,i,c=>cond (Nat.beq j i) ((j,c)::h) ((j,b)::ug h i c)
theorem q2b (j:Nat) (b:B) (h:List (Nat×B)) (i:Nat):gt ((j,b)::h) i=if j=i then some b else gt h i:=by
 simp only [gt,beq_eq]; by_cases e:j=i<;>simp [e]
theorem qrl (h:List (Nat×B)) (i:Nat) (c:B) (j:Nat):gt (ug h i c) j=if i=j then (gt h i).map (fun _=>c) else gt h j:=by
 induction h with
 | nil=>simp [ug,gt]
 | cons x h ih =>
  obtain ⟨k,b⟩:=x
  simp only [ug,beq_eq]
  by_cases e:k=i
  ·subst e
   simp only [yC,zC,q2b]
   by_cases e2:k=j<;>simp [e2]
  ·simp only [e,yB,zD,q2b,ih]
   by_cases e2:i=j
   ·subst e2; simp [e]
   ·by_cases e3:k=j<;>simp [e2,e3]
def B.st:B→Nat
 | .vec _ _ _ st=>st
 | _=>0
structure Cx where
 ρ:Nat→Option Nat
 σ:Sg
 s:S
def Ref (x:Cx) (k st:Nat) (p:Option Nat→Prop):Prop:=k<x.σ.nx∧∀ b,gt x.σ.h k=some b→st≤b.st∧(st=b.st→p (x.ρ k))
def z0y (off n:Nat) (v:Value) (sz:Nat):Option Nat→Prop
 | none=>off=0∧n=0∧∃ o,v = .slice o 0 0∧∀ a,o=some a→a.spot=none
 | some i=>(0<off∧n=0∧∃ a c,v = .slice (some a) 0 c∧a.spot=none)∨v = .slice (some ⟨i,off*sz,none⟩) n (q05+off)
mutual
def Rel (x:Cx):U→Value→Prop
 | .junk,_=>True
 | .bool b,v=>v = .bool b
 | .int k n,v=>v = .int k n
 | .str l,v=>v = .string ⟨⟨l⟩⟩
 | .nilp,v=>v = .pointer none
 | .ptr k st off,v=>v.oneCell'=true∧Ref x k st fun o=>∃ i,o=some i∧v = .pointer (some ⟨i,off,none⟩)
 | .iptr l,v=>∃ i off row e,v = .pointer (some ⟨i,off,none⟩)∧lk x.s.h i=some (.inl (row,e,1))∧q3z x l (row.drop off)∧okL l=true
 | .nils,v=>v = .slice none 0 0
 | .sl k off n c,v=>v.oneCell'=true∧Ref x k 0 fun o=>∃ i,o=some i∧v = .slice (some ⟨i,off,none⟩) n c∧c<q05∧n≤c
 | .vl k st off n,v=>v.oneCell'=true∧k<x.σ.nx∧∀ b,gt x.σ.h k=some b→st≤b.st∧(st=b.st→∃ l e sz,b = .vec l e sz st∧z0y off n v sz (x.ρ k))
 | .isl t l,v=>(l=[]∧(v = .slice none 0 0∨∃ r,v = .chan (some r)))∨∃ i off c,v = .slice (some ⟨i,off,none⟩) l.length c∧(t=true→c=l.length∧c<q05) ∧
   (l=[]∨∃ row e sz,lk x.s.h i=some (.inl (row,e,1))∧qcw x sz l (row.drop off) ∧
    ((c<q05∧l.length≤c)∨(q05≤c∧e=sz+1∧0<sz∧off=capD c*sz∧off+l.length*sz≤row.length)))
 | .nilm,v=>v = .map none
 | .map k,v=>v.oneCell'=true∧Ref x k 0 fun o=>∃ i,o=some i∧v = .map (some i)
 | .fn f a b,v=>∃ va vb,v = .func f ⟨va⟩ ⟨vb⟩∧q3z x a va∧a.length=va.length∧q3z x b vb∧b.length=vb.length
 | .nilf,v=>v = .nilFunc
 | .nili,v=>v = .nilIface
 | .agg l,v=>∃ vs,v = .agg ⟨vs⟩∧q3z x l vs∧l.length=vs.length∧okL l=true
 | .tup l,v=>∃ vs,v = .tuple ⟨vs⟩∧q3z x l vs∧l.length=vs.length
def q3z (x:Cx):List U→List Value→Prop
 | [],_=>True
 | u::us,vs=>match vs with
  | []=>False
  | v::vs=>Rel x u v∧q3z x us vs
def qcw (x:Cx) (sz:Nat):List (List U)→List Value→Prop
 | [],_=>True
 | c::cs,vs=>c.length=sz∧okL c=true∧q3z x c vs∧qcw x sz cs (vs.drop sz)
end
mutual
def Bel (n:Nat):U→Prop
 | .ptr k _ _=>k<n
 | .sl k _ _ _=>k<n
 | .vl k _ _ _=>k<n
 | .map k=>k<n
 | .iptr l=>BelL n l
 | .isl _ l=>qhd n l
 | .fn _ a b=>BelL n a∧BelL n b
 | .agg l=>BelL n l
 | .tup l=>BelL n l
 | _=>True
def BelL (n:Nat):List U→Prop
 | []=>True
 | u::us=>Bel n u∧BelL n us
def qhd (n:Nat):List (List U)→Prop
 | []=>True
 | c::cs=>BelL n c∧qhd n cs
end
theorem q9v (x:Cx):∀ (l:List U) (vs:List Value),q3z x l vs↔∀ (i:Nat) (u:U),l[i]? = some u→∃ v,vs[i]? = some v∧Rel x u v
 | [],vs=>by simp [q3z]
 | u::us,[]=>by
  simp only [q3z,false_iff]
  intro h
  obtain ⟨v,hv,_⟩:=h 0 u rfl
  simp at hv
 | u::us,v::vs=>by
  simp only [q3z,q9v x us vs]
  constructor
  ·rintro ⟨h1,h2⟩ i w hi
   cases i with
   | zero=>simp at hi; subst hi; exact ⟨v,rfl,h1⟩
   | succ i=>simp at hi; simpa using h2 i w hi
  ·intro h
   refine ⟨?_,fun i w hi=>by simpa using h (i+1) w (by simpa using hi)⟩
   obtain ⟨v',h1,h2⟩:=h 0 u rfl
   simp at h1; subst h1; exact h2
theorem qdi (n:Nat):∀ l:List U,BelL n l↔∀ u∈l,Bel n u
 | []=>by simp [BelL]
 | u::us=>by simp [BelL,qdi n us]
theorem que (n:Nat):∀ l:List (List U),qhd n l↔∀ c∈l,BelL n c
 | []=>by simp [qhd]
 | u::us=>by simp [qhd,que n us]
structure Mo (n:Nat) (x y:Cx):Prop where
 ref:∀ k,k<n→k<x.σ.nx→k<y.σ.nx∧∀ b',gt y.σ.h k=some b'→∃ b,gt x.σ.h k=some b∧b.st≤b'.st∧(b.st=b'.st→y.ρ k=x.ρ k∧∀ l e sz st,b = .vec l e sz st→∃ l',b' = .vec l' e sz st)
 imm:∀ i row e,lk x.s.h i=some (.inl (row,e,1))→lk y.s.h i=some (.inl (row,e,1))
variable {n:Nat}
variable {x:Cx}
variable {y:Cx}
theorem Mo.ref' (h:Mo n x y) {k st:Nat} {p:Option Nat→Prop} (hk:k<n) (hr:Ref x k st p):Ref y k st p:=by
 obtain ⟨h1,h2⟩:=hr
 obtain ⟨g1,g2⟩:=h.ref k hk h1
 refine ⟨g1,fun b' hb'=>?_⟩
 obtain ⟨b,e1,e2,e3⟩:=g2 b' hb'
 obtain ⟨e4,e5⟩:=h2 b e1
 refine ⟨Nat.le_trans e4 e2,fun e=>?_⟩
 have:b.st=b'.st:=by omega
 rw [(e3 this).1]
 exact e5 (by omega)
mutual
theorem Rel.mono {n:Nat} {x y:Cx} (h:Mo n x y):(u:U)→(v:Value)→Bel n u→Rel x u v→Rel y u v
 | .junk,v,_,_=>by simp [Rel]
 | .bool b,v,_,hr=>by simpa [Rel] using hr
 | .int k z,v,_,hr=>by simpa [Rel] using hr
 | .str l,v,_,hr=>by simpa [Rel] using hr
 | .nilp,v,_,hr=>by simpa [Rel] using hr
 | .ptr k st off,v,hb,hr=>by simp only [Rel] at *; exact ⟨hr.1,h.ref' (by simpa [Bel] using hb) hr.2⟩
 | .iptr l,v,hb,hr=>by
  simp only [Rel] at *
  obtain ⟨i,off,row,e,h1,h2,h3,h4⟩:=hr
  exact ⟨i,off,row,e,h1,h.imm _ _ _ h2,q3z.mono h l _ (by simpa [Bel] using hb) h3,h4⟩
 | .nils,v,_,hr=>by simpa [Rel] using hr
 | .sl k off m c,v,hb,hr=>by simp only [Rel] at *; exact ⟨hr.1,h.ref' (by simpa [Bel] using hb) hr.2⟩
 | .vl k st off m,v,hb,hr=>by
  simp only [Rel] at *
  obtain ⟨h0,h1,h2⟩:=hr
  obtain ⟨g1,g2⟩:=h.ref k (by simpa [Bel] using hb) h1
  refine ⟨h0,g1,fun b' hb'=>?_⟩
  obtain ⟨b,e1,e2,e3⟩:=g2 b' hb'
  obtain ⟨e4,e5⟩:=h2 b e1
  refine ⟨Nat.le_trans e4 e2,fun e=>?_⟩
  have e6:b.st=b'.st:=by omega
  obtain ⟨l,e',sz,e7,e8⟩:=e5 (by omega)
  obtain ⟨e9,e10⟩:=e3 e6
  obtain ⟨l',e11⟩:=e10 _ _ _ _ e7
  rw [e9]
  exact ⟨l',e',sz,e11,e8⟩
 | .isl t l,v,hb,hr=>by
  simp only [Rel] at *
  rcases hr with hr | ⟨i,off,c,h1,h2,h3⟩
  ·exact .inl hr
  ·refine .inr ⟨i,off,c,h1,h2,?_⟩
   rcases h3 with h3 | ⟨row,e,sz,g1,g2,g3⟩
   ·exact .inl h3
   ·exact .inr ⟨row,e,sz,h.imm _ _ _ g1,qcw.mono h l _ (by simpa [Bel] using hb) g2,g3⟩
 | .nilm,v,_,hr=>by simpa [Rel] using hr
 | .map k,v,hb,hr=>by simp only [Rel] at *; exact ⟨hr.1,h.ref' (by simpa [Bel] using hb) hr.2⟩
 | .fn f a b,v,hb,hr=>by
  simp only [Rel] at *
  obtain ⟨va,vb,h1,h2,h3,h4,h5⟩:=hr
  simp only [Bel] at hb
  exact ⟨va,vb,h1,q3z.mono h a _ hb.1 h2,h3,q3z.mono h b _ hb.2 h4,h5⟩
 | .nilf,v,_,hr=>by simpa [Rel] using hr
 | .nili,v,_,hr=>by simpa [Rel] using hr
 | .agg l,v,hb,hr=>by
  simp only [Rel] at *
  obtain ⟨vs,h1,h2,h3⟩:=hr
  exact ⟨vs,h1,q3z.mono h l _ (by simpa [Bel] using hb) h2,h3⟩
 | .tup l,v,hb,hr=>by
  simp only [Rel] at *
  obtain ⟨vs,h1,h2,h3⟩:=hr
  exact ⟨vs,h1,q3z.mono h l _ (by simpa [Bel] using hb) h2,h3⟩
theorem q3z.mono {n:Nat} {x y:Cx} (h:Mo n x y):(l:List U)→(vs:List Value)→BelL n l→q3z x l vs→q3z y l vs
 | [],_,_,_=>by simp [q3z]
 | u::us,[],_,hr=>by simp [q3z] at hr
 | u::us,v::vs,hb,hr=>by
  simp only [q3z,BelL] at *
  exact ⟨Rel.mono h u v hb.1 hr.1,q3z.mono h us vs hb.2 hr.2⟩
theorem qcw.mono {n sz:Nat} {x y:Cx} (h:Mo n x y):(l:List (List U))→(vs:List Value)→qhd n l→qcw x sz l vs→qcw y sz l vs
 | [],_,_,_=>by simp [qcw]
 | c::cs,vs,hb,hr=>by
  simp only [qcw,qhd] at *
  exact ⟨hr.1,hr.2.1,q3z.mono h c vs hb.1 hr.2.2.1,qcw.mono h cs _ hb.2 hr.2.2.2⟩
end
mutual
theorem Rel.bel {x:Cx}:(u:U)→(v:Value)→Rel x u v→Bel x.σ.nx u
 | .ptr k st off,v,hr=>by simp only [Rel,Bel] at *; exact hr.2.1
 | .sl k off m c,v,hr=>by simp only [Rel,Bel] at *; exact hr.2.1
 | .vl k st off m,v,hr=>by simp only [Rel,Bel] at *; exact hr.2.1
 | .map k,v,hr=>by simp only [Rel,Bel] at *; exact hr.2.1
 | .iptr l,v,hr=>by
  simp only [Rel,Bel] at *
  obtain ⟨i,off,row,e,h1,h2,h3,_⟩:=hr
  exact q3z.bel l _ h3
 | .isl t l,v,hr=>by
  simp only [Rel,Bel] at *
  rcases hr with ⟨rfl,_⟩ | ⟨i,off,c,h1,h2,h3⟩
  ·simp [qhd]
  ·rcases h3 with rfl | ⟨row,e,sz,g1,g2,_⟩
   ·simp [qhd]
   ·exact qcw.bel l _ g2
 | .fn f a b,v,hr=>by
  simp only [Rel,Bel] at *
  obtain ⟨va,vb,h1,h2,h3,h4,h5⟩:=hr
  exact ⟨q3z.bel a _ h2,q3z.bel b _ h4⟩
 | .agg l,v,hr=>by
  simp only [Rel,Bel] at *
  obtain ⟨vs,h1,h2,h3⟩:=hr
  exact q3z.bel l _ h2
 | .tup l,v,hr=>by
  simp only [Rel,Bel] at *
  obtain ⟨vs,h1,h2,h3⟩:=hr
  exact q3z.bel l _ h2
 | .junk,_,_=>by simp [Bel]
 | .bool _,_,_=>by simp [Bel]
 | .int _ _,_,_=>by simp [Bel]
 | .str _,_,_=>by simp [Bel]
 | .nilp,_,_=>by simp [Bel]
 | .nils,_,_=>by simp [Bel]
 | .nilm,_,_=>by simp [Bel]
 | .nilf,_,_=>by simp [Bel]
 | .nili,_,_=>by simp [Bel]
theorem q3z.bel {x:Cx}:(l:List U)→(vs:List Value)→q3z x l vs→BelL x.σ.nx l
 | [],_,_=>by simp [BelL]
 | u::us,[],hr=>by simp [q3z] at hr
 | u::us,v::vs,hr=>by
  simp only [q3z,BelL] at *
  exact ⟨Rel.bel u v hr.1,q3z.bel us vs hr.2⟩
theorem qcw.bel {x:Cx} {sz:Nat}:(l:List (List U))→(vs:List Value)→qcw x sz l vs→qhd x.σ.nx l
 | [],_,_=>by simp [qhd]
 | c::cs,vs,hr=>by
  simp only [qcw,qhd] at *
  exact ⟨q3z.bel c vs hr.2.2.1,qcw.bel cs _ hr.2.2.2⟩
end
def q1o (x:Cx) (l:List U) (vs:List Value):Prop:=q3z x l vs∧l.length=vs.length
variable {l:List U}
variable {vs:List Value}
variable {u:U}
theorem q1o.get (h:q1o x l vs) {i:Nat} (hu:l[i]? = some u):∃ v,vs[i]? = some v∧Rel x u v:=(q9v x l vs).1 h.1 i u hu
theorem q1o.mk' (hl:l.length=vs.length) (h:∀ (i:Nat) (u:U),l[i]? = some u→∃ v,vs[i]? = some v∧Rel x u v):q1o x l vs:=⟨(q9v x l vs).2 h,hl⟩
theorem q1o.nil (x:Cx):q1o x [] []:=⟨by simp [q3z],rfl⟩
theorem q1o.cons {v:Value} (h:Rel x u v) (h':q1o x l vs):q1o x (u::l) (v::vs):=⟨by simp [q3z,h,h'.1],by simp [h'.2]⟩
theorem q1o.inv (h:q1o x (u::l) vs):∃ v vs',vs=v::vs'∧Rel x u v∧q1o x l vs':=by
 obtain ⟨h1,h2⟩:=h
 cases vs with
 | nil=>simp at h2
 | cons v vs=>simp only [q3z] at h1; exact ⟨v,vs,rfl,h1.1,h1.2,by simpa using h2⟩
theorem q1o.nil_inv (h:q1o x [] vs):vs=[]:=by
 have:=h.2; simpa using this.symm
theorem q1o.append {a b:List U} {va vb:List Value} (h:q1o x a va) (h':q1o x b vb):q1o x (a++b) (va++vb):=by
 induction a generalizing va with
 | nil=>rw [h.nil_inv]; exact h'
 | cons u a ih =>
  obtain ⟨v,vs,rfl,h1,h2⟩:=h.inv
  exact q1o.cons h1 (ih h2)
theorem q1o.drop {x:Cx} {a:List U} {va:List Value} (h:q1o x a va) (n:Nat):q1o x (a.drop n) (va.drop n):=by
 refine q1o.mk' (by simp [h.2]) fun i u hu=>?_
 rw [List.getElem?_drop] at hu ⊢
 exact h.get hu
theorem q1o.take {x:Cx} {a:List U} {va:List Value} (h:q1o x a va) (n:Nat):q1o x (a.take n) (va.take n):=by
 refine q1o.mk' (by simp [h.2]) fun i u hu=>?_
 rw [List.getElem?_take] at hu ⊢
 split at hu
 ·rename_i hlt; simp only [hlt,if_true]; exact h.get hu
 ·cases hu
theorem q1o.set {x:Cx} {a:List U} {va:List Value} (h:q1o x a va) (n:Nat) {u:U} {v:Value} (hu:Rel x u v):q1o x (a.set n u) (va.set n v):=by
 refine q1o.mk' (by simp [h.2]) fun i w hw=>?_
 rw [List.getElem?_set] at hw ⊢
 split at hw
 ·split at hw
  ·cases hw; rename_i h1 h2; subst h1; rw [h.2] at h2; simp [h2,hu]
  ·cases hw
 ·rename_i hne; simp only [hne,if_false]; exact h.get hw
theorem q1o.mono {n:Nat} {x y:Cx} (h:Mo n x y) {l:List U} {vs:List Value} (hb:BelL n l) (hr:q1o x l vs):q1o y l vs:=⟨q3z.mono h l vs hb hr.1,hr.2⟩
theorem q3z.takeE (h:q3z x l vs):q1o x l (vs.take l.length):=by
 refine q1o.mk' ?_ fun i u hu=>?_
 ·rcases Nat.lt_or_ge vs.length l.length with hlt | hge
  ·have hu:l[vs.length]? = some l[vs.length]:=by simp [hlt]
   obtain ⟨v,hv,_⟩:=(q9v x l vs).1 h _ _ hu
   simp at hv
  ·simp; omega
 ·obtain ⟨v,hv,hr⟩:=(q9v x l vs).1 h i u hu
  have:i<l.length:=(zG.1 hu).1
  exact ⟨v,by rw [List.getElem?_take]; simp [this,hv],hr⟩
theorem q3z.len (h:q3z x l vs):l.length≤vs.length:=by
 have:=h.takeE.2
 rw [List.length_take] at this
 omega
theorem q3z.drop {x:Cx} {l:List U} {vs:List Value} (h:q3z x l vs) (n:Nat):q3z x (l.drop n) (vs.drop n):=by
 rw [q9v] at *
 intro i u hu
 rw [List.getElem?_drop] at hu ⊢
 exact h _ _ hu
def qns (x:Cx) (es:List ME) (vs:List MapEntry):Prop:=es.length=vs.length∧∀ (i:Nat) (e:ME),es[i]? = some e→∃ v:MapEntry,vs[i]? = some v∧Rel x e.key v.key∧Rel x e.val v.val∧v.born=e.born
def BOk (x:Cx) (k:Nat):B→Prop
 | .row l e=>okL l=true∧∃ i l',x.ρ k=some i∧lk x.s.h i=some (.inl (l',e,0))∧q1o x l l'
 | .vec l e sz _=>okL l=true∧0<sz∧(l=[]∧x.ρ k=none∨∃ i l',x.ρ k=some i∧lk x.s.h i=some (.inl (l',e,sz+2))∧q1o x l l')
 | .map es cl=>∃ i es',x.ρ k=some i∧lk x.s.h i=some (.inr (es',cl))∧qns x es es'
structure qfj (x:Cx):Prop where
 ok:∀ k b,gt x.σ.h k=some b→k<x.σ.nx∧BOk x k b
 inj:∀ k k' b b' i,gt x.σ.h k=some b→gt x.σ.h k'=some b'→x.ρ k=some i→x.ρ k'=some i→k=k'
 bd:∀ i b,lk x.s.h i=some b→i<x.s.nx
def Fr (F:Nat→Blk→Prop) (x:Cx):Prop:=∀ i b,F i b→lk x.s.h i=some b∧∀ k c,gt x.σ.h k=some c→x.ρ k≠some i
def Ke (n:Nat) (x y:Cx):Prop:=∀ u v,Bel n u→Rel x u v→Rel y u v
theorem Ke.refl (n:Nat) (x:Cx):Ke n x x:=fun _ _ _ h=>h
theorem Ke.trans {z:Cx} (h:Ke n x y) (h':Ke n y z):Ke n x z:=fun u v hb hr=>h' u v hb (h u v hb hr)
mutual
theorem Bel.le {n k:Nat} (h:n≤k):(u:U)→Bel n u→Bel k u
 | .ptr a _ _,hb=>by simp only [Bel] at *; omega
 | .sl a _ _ _,hb=>by simp only [Bel] at *; omega
 | .vl a _ _ _,hb=>by simp only [Bel] at *; omega
 | .map a,hb=>by simp only [Bel] at *; omega
 | .iptr l,hb=>by simp only [Bel] at *; exact BelL.le h l hb
 | .isl t l,hb=>by simp only [Bel] at *; exact qhd.le h l hb
 | .fn f a b,hb=>by simp only [Bel] at *; exact ⟨BelL.le h a hb.1,BelL.le h b hb.2⟩
 | .agg l,hb=>by simp only [Bel] at *; exact BelL.le h l hb
 | .tup l,hb=>by simp only [Bel] at *; exact BelL.le h l hb
 | .junk,_=>by simp [Bel]
 | .bool _,_=>by simp [Bel]
 | .int _ _,_=>by simp [Bel]
 | .str _,_=>by simp [Bel]
 | .nilp,_=>by simp [Bel]
 | .nils,_=>by simp [Bel]
 | .nilm,_=>by simp [Bel]
 | .nilf,_=>by simp [Bel]
 | .nili,_=>by simp [Bel]
theorem BelL.le {n k:Nat} (h:n≤k):(l:List U)→BelL n l→BelL k l
 | [],_=>by simp [BelL]
 | u::us,hb=>by simp only [BelL] at *; exact ⟨Bel.le h u hb.1,BelL.le h us hb.2⟩
theorem qhd.le {n k:Nat} (h:n≤k):(l:List (List U))→qhd n l→qhd k l
 | [],_=>by simp [qhd]
 | u::us,hb=>by simp only [qhd] at *; exact ⟨BelL.le h u hb.1,qhd.le h us hb.2⟩
end
theorem Ke.le {n k:Nat} {x y:Cx} (h:Ke k x y) (hk:n≤k):Ke n x y:=fun u v hb hr=>h u v (Bel.le hk u hb) hr
theorem Mo.ke (h:Mo n x y):Ke n x y:=fun u v hb hr=>Rel.mono h u v hb hr
theorem Ke.E (h:Ke n x y) (hb:BelL n l) (hr:q1o x l vs):q1o y l vs :=
 q1o.mk' hr.2 fun i u hu=>by
  obtain ⟨v,h1,h2⟩:=hr.get hu
  exact ⟨v,h1,h u v ((qdi n l).1 hb u (zX hu)) h2⟩
theorem q1o.bel {x:Cx} {l:List U} {vs:List Value} (hr:q1o x l vs):BelL x.σ.nx l:=q3z.bel l vs hr.1
mutual
def toV:U→Option Value
 | .bool b=>some (.bool b)
 | .int k n=>some (.int k n)
 | .str s=>some (.string ⟨⟨s⟩⟩)
 | .nilp=>some (.pointer none)
 | .nils=>some (.slice none 0 0)
 | .nilm=>some (.map none)
 | .nilf=>some .nilFunc
 | .nili=>some .nilIface
 | .agg l=>cond (okL l) (match toVL l with
  | some vs=>some (.agg ⟨vs⟩)
  | none=>none) none
 | _=>none
def toVL:List U→Option (List Value)
 | []=>some []
 | u::l=>match toV u with
  | some v=>(match toVL l with
   | some vs=>some (v::vs)
   | none=>none)
  | none=>none
end
mutual
def ofV:Value→Option U
 | .bool b=>some (.bool b)
 | .int k n=>some (.int k n)
 | .string s=>some (.str s.data.toList)
 | .pointer none=>some .nilp
 | .slice none n c=>match n,c with
  | 0,0=>some .nils
  | _,_=>none
 | .map none=>some .nilm
 | .nilFunc=>some .nilf
 | .nilIface=>some .nili
 | .agg ⟨l⟩=>match qlg l with
  | some us=>cond (okL us) (some (.agg us)) none
  | none=>none
 | _=>none
def qlg:List Value→Option (List U)
 | []=>some []
 | v::l=>match ofV v with
  | some u=>(match qlg l with
   | some us=>some (u::us)
   | none=>none)
  | none=>none
end
def qa2:U→Option (List U)
 | .junk=>none
 | .tup _=>none
 | .agg l=>some l
 | u=>some [u]
def q0u (tm:List U):Operand→Option U
 | .tmp t=>nth tm t
 | .const v=>ofV v
 | .func f=>some (.fn (.func f) [] [])
 | .global _=>none
def q4o (tm:List U):List Operand→Option (List U)
 | []=>some []
 | x::l=>match q0u tm x with
  | some v=>(match q4o tm l with
   | some r=>some (v::r)
   | none=>none)
  | none=>none
def qc0 (tm:List U):List (Nat×Operand)→Option (List (Nat×U))
 | []=>some []
 | (i,x)::l=>match q0u tm x with
  | some v=>(match qc0 tm l with
   | some r=>some ((i,v)::r)
   | none=>none)
  | none=>none
def qa3 (tm:List U):Option Operand→Option (Option Value)
 | none=>some none
 | some x=>match q0u tm x with
  | some (.int k n)=>some (some (.int k n))
  | _=>none
def live (σ:Sg) (k st:Nat):Bool:=match gt σ.h k with
 | some b=>Nat.beq b.st st
 | none=>false
def cellsOf (σ:Sg) (k st:Nat):Option (List U):=match gt σ.h k with
 | some (.row l _)=>cond (Nat.beq 0 st) (some l) none
 | some (.vec l _ _ st')=>cond (Nat.beq st' st) (some l) none
 | _=>none
def rowOf (σ:Sg) (k:Nat):Option (List U):=match gt σ.h k with
 | some (.row l _)=>some l
 | _=>none
def qhc (σ:Sg) (k st:Nat):Option (List U×TypeId×Nat):=match gt σ.h k with
 | some (.vec l e sz st')=>cond (Nat.beq st' st) (some (l,e,sz)) none
 | _=>none
def qo3 (σ:Sg) (k:Nat) (l:List U):Option Sg:=match gt σ.h k with
 | some (.row _ e)=>some ⟨ug σ.h k (.row l e),σ.nx⟩
 | some (.vec _ e sz st)=>some ⟨ug σ.h k (.vec l e sz st),σ.nx⟩
 | _=>none
def qfl (l:List U) (off n:Nat):Option (List U):=if off+n≤l.length then some ((l.drop off).take n) else none
def ql4 (l:List U) (off:Nat) (vs:List U):Option (List U):=if off+vs.length≤l.length then some (l.take off++(vs++l.drop (off+vs.length))) else none
def z38 (T:Tb) (t:TypeId) (cs:List U) (off:Nat):Option U :=
 match T.und t with
 | none=>none
 | some d=>cond (q72 d) (match q0x T t with
   | some n=>some (.agg ((cs.drop off).take n))
   | none=>none) (nth cs off)
def qe5 (place:Nat→Option (Nat×Nat)) (cells:List U):List (Nat×U)→Option (List U)
 | []=>some cells
 | (i,v)::rest=>match place i with
  | none=>none
  | some (off,size)=>match qa2 v with
   | none=>none
   | some cs=>cond (Nat.beq cs.length size) (match ql4 cells off cs with
    | some c=>qe5 place c rest
    | none=>none) none
def qog (T:Tb) (t:TypeId) (ps:List (Nat×U)):Option U :=
 match T.inf t with
 | none=>none
 | some (_,_,z)=>match qlg z.cells.toList with
  | none=>none
  | some zu=>match T.und t with
   | some (.struct fs)=>cond (qge T fs.toList) (match qe5 (qdv T fs.toList) zu ps with
    | some cs=>cond (okL cs) (some (.agg cs)) none
    | none=>none) none
   | some (.array _ e)=>(match q0x T e with
    | none=>none
    | some n=>match qe5 (fun i=>some (i*n,n)) zu ps with
     | some cs=>cond (okL cs) (some (.agg cs)) none
     | none=>none)
   | _=>none
def g1 (f:Value→Option Value) (u:U):Option U:=match toV u with
 | some v=>(match f v with
  | some r=>ofV r
  | none=>none)
 | none=>none
def g2 (f:Value→Value→Option Value) (a b:U):Option U:=match toV a with
 | some x=>(match toV b with
  | some y=>(match f x y with
   | some r=>ofV r
   | none=>none)
  | none=>none)
 | none=>none
def there (σ:Sg):U→Nat
 | .ptr k st _=>cond (live σ k st) 1 0
 | .iptr _=>1
 | .sl k _ _ _=>cond (live σ k 0) 2 0
 | .vl k st _ (_+1)=>cond (live σ k st) 2 0
 | .isl _ (_::_)=>2
 | .map k=>cond (live σ k 0) 3 0
 | _=>0
def qdx:U→Nat
 | .nilp=>1
 | .nils=>2
 | .nilm=>3
 | _=>0
def qh4 (T:Tb) (t:TypeId):Nat:=match T.und t with
 | some (.pointer _)=>1
 | some (.slice _)=>2
 | some (.map _ _)=>3
 | _=>0
def cmpB:BinOp→Option U
 | .eql=>some (.bool false)
 | .neq=>some (.bool true)
 | _=>none
def qor (T:Tb) (σ:Sg) (op:BinOp) (t:TypeId) (x y:U):Option U :=
 cond (Nat.beq (qh4 T t) 0) none (cond (cond (Nat.beq (there σ x) (qh4 T t)) (Nat.beq (qdx y) (qh4 T t)) (cond (Nat.beq (qdx x) (qh4 T t)) (Nat.beq (there σ y) (qh4 T t)) false))
  (cmpB op) none)
def binU (T:Tb) (σ:Sg) (op:BinOp) (t:TypeId) (x y:U):Option U:=match g2 (qnz T op t) x y with
 | some r=>some r
 | none=>qor T σ op t x y
def qil (T:Tb) (σ:Sg) (st:TypeId) (x:U) (f:Nat):Option U :=
 match T.und st with
 | some (.struct fs)=>match nth fs.toList f with
  | some fd=>(match q0x T fd.type with
   | some (_+1)=>match x with
    | .ptr k s off=>cond (live σ k s) (some (.ptr k s (off+fd.offset))) none
    | .iptr l=>some (.iptr (l.drop fd.offset))
    | _=>none
   | _=>none)
  | none=>none
 | _=>none
def qye (T:Tb) (st:TypeId) (x:U) (f:Nat):Option U :=
 match T.und st with
 | some (.struct fs)=>match nth fs.toList f with
  | some fd=>(match x with
   | .agg cs=>z38 T fd.type cs fd.offset
   | _=>none)
  | none=>none
 | _=>none
def q8j (T:Tb) (σ:Sg) (t:TypeId) (x ix:U):Option U :=
 match ix with
 | .int _ i=>match T.und t with
  | some (.slice e)=>(match q0x T e with
   | some sz=>match x with
    | .sl k off n _=>cond (live σ k 0) (if 0≤i∧i<n then some (.ptr k 0 (off+i.toNat*sz)) else none) none
    | .vl k st off n=>(match qhc σ k st with
     | some (l,_,sz')=>cond (Nat.beq sz' sz) (if 0≤i∧i<n∧l≠[] then some (.ptr k st (off*sz+i.toNat*sz)) else none) none
     | none=>none)
    | .isl _ l=>if 0≤i∧i<l.length then (match l[i.toNat]? with
     | some c=>cond (Nat.beq c.length sz) (some (.iptr c)) none
     | none=>none) else none
    | _=>none
   | none=>none)
  | some (.array n e)=>(match q0x T e with
   | some sz=>match x with
    | .ptr k st off=>cond (live σ k st) (if 0≤i∧i<n then some (.ptr k st (off+i.toNat*sz)) else none) none
    | .iptr l=>if 0≤i∧i<n then some (.iptr (l.drop (i.toNat*sz))) else none
    | _=>none
   | none=>none)
  | _=>none
 | _=>none
def quw (T:Tb) (t:TypeId) (x ix:U):Option U :=
 match x with
 | .agg cs=>(match ix with
  | .int _ i=>match T.und t with
   | some (.array n e)=>(if 0≤i∧i<n then (match q0x T e with
    | some sz=>z38 T e cs (i.toNat*sz)
    | none=>none) else none)
   | _=>none
  | _=>none)
 | _=>g2 (qmp T t) x ix
def qlq (x:U) (i:Nat):Option U:=match x with
 | .tup vs=>nth vs i
 | _=>none
def lenU (T:Tb) (σ:Sg) (t:TypeId) (x:U):Option U:=match T.und t with
 | some (.slice _)=>(match x with
  | .nils=>some (.int .i64 0)
  | .sl k _ n _=>cond (live σ k 0) (some (.int .i64 n)) none
  | .vl k st _ n=>cond (live σ k st) (some (.int .i64 n)) none
  | .isl _ l=>some (.int .i64 l.length)
  | _=>none)
 | some .string=>(match x with
  | .str s=>some (.int .i64 s.length)
  | _=>none)
 | some (.array n _)=>(match x with
  | .junk=>none
  | _=>some (.int .i64 n))
 | some (.map _ _)=>(match x with
  | .nilm=>some (.int .i64 0)
  | .map k=>(match gt σ.h k with
   | some (.map es _)=>some (.int .i64 es.length)
   | _=>none)
  | _=>none)
 | _=>none
def capU (T:Tb) (σ:Sg) (t:TypeId) (x:U):Option U:=match T.und t with
 | some (.slice _)=>(match x with
  | .nils=>some (.int .i64 0)
  | .sl k _ _ c=>cond (live σ k 0) (some (.int .i64 c)) none
  | _=>none)
 | _=>none
def qks {α:Type} (l:List α) (lo hi:Nat):List α:=(l.take hi).drop lo
def qlb (T:Tb) (σ:Sg) (t:TypeId) (x:U) (lo hi mx:Option Value):Option U :=
 match T.und t with
 | some .string=>(match x with
  | .str s=>(match mx with
   | some _=>none
   | none=>match q0y s.length s.length lo hi none with
    | some (l,h,_)=>some (.str (qks s l h))
    | none=>none)
  | _=>none)
 | some (.slice e)=>(match q0x T e with
  | some sz=>match x with
   | .nils=>(match q0y 0 0 lo hi mx with
    | some _=>some .nils
    | none=>none)
   | .sl k off n c=>cond (live σ k 0) (match q0y n c lo hi mx with
    | some (l,h,m)=>some (.sl k (cond (Nat.beq m l) off (off+l*sz)) (h - l) (m - l))
    | none=>none) none
   | .vl k st off n=>(match qhc σ k st with
    | some (r,_,sz')=>cond (Nat.beq sz' sz) (match mx with
     | some _=>none
     | none=>match q0y n n lo hi none with
      | some (l,h,_)=>if (off+n)*sz≤r.length then some (.vl k st (off+l) (h - l)) else none
      | none=>none) none
    | none=>none)
   | .isl t l=>if (l.all fun c=>Nat.beq c.length sz)=true then (match q0y l.length l.length lo hi mx with
    | some (a,h,m)=>(match mx with
      | some _=>if m<q05 then some (.isl (Nat.beq m h) (qks l a h)) else none
      | none=>some (.isl (cond t (Nat.beq h l.length) false) (qks l a h)))
    | none=>none) else none
   | _=>none
  | none=>none)
 | _=>none
def q59 (T:Tb) (σ:Sg) (tm:List U) (op:Op):Option U :=
 match op with
 | .move x=>q0u tm x
 | .assign x=>q0u tm x
 | .pick c a b=>(match q0u tm c with
  | some (.bool true)=>q0u tm a
  | some (.bool false)=>q0u tm b
  | _=>none)
 | .build t ps=>(match qc0 tm ps.toList with
  | some qs=>qog T t qs
  | none=>none)
 | .nilCheck x=>(match q0u tm x with
  | some (.ptr k st off)=>cond (live σ k st) (some (.ptr k st off)) none
  | some (.iptr l)=>some (.iptr l)
  | some (.fn (.func f) a b)=>some (.fn (.func f) a b)
  | _=>none)
 | .binOp op t x y _=>(match q0u tm x,q0u tm y with
  | some a,some b=>binU T σ op t a b
  | _,_=>none)
 | .unOp op _ x=>(match q0u tm x with
  | some a=>g1 (unX op) a
  | none=>none)
 | .convert s d x=>(match q0u tm x with
  | some a=>g1 (convX T s d) a
  | none=>none)
 | .makeFunc fn first cap=>(match q4o tm first.toList,q4o tm cap.toList with
  | some a,some b=>some (.fn fn a b)
  | _,_=>none)
 | .slice t x lo hi mx=>(match q0u tm x,qa3 tm lo,qa3 tm hi,qa3 tm mx with
  | some a,some l,some h,some m=>qlb T σ t a l h m
  | _,_,_,_=>none)
 | .fieldAddr t x f=>(match q0u tm x with
  | some a=>qil T σ t a f
  | none=>none)
 | .field t x f=>(match q0u tm x with
  | some a=>qye T t a f
  | none=>none)
 | .indexAddr t x i=>(match q0u tm x,q0u tm i with
  | some a,some b=>q8j T σ t a b
  | _,_=>none)
 | .index t x i=>(match q0u tm x,q0u tm i with
  | some a,some b=>quw T t a b
  | _,_=>none)
 | .extract x i=>(match q0u tm x with
  | some a=>qlq a i
  | none=>none)
 | .call c=>(match c.callee with
  | .builtin .len=>(match q4o tm c.args.toList,c.argTypes.toList with
   | some [x],t::_=>lenU T σ t x
   | _,_=>none)
  | .builtin .cap=>(match q4o tm c.args.toList,c.argTypes.toList with
   | some [x],t::_=>capU T σ t x
   | _,_=>none)
  | .builtin .max=>(match q4o tm c.args.toList with
   | some (x::l)=>(match toV x,toVL l with
    | some a,some b=>(match qh3 qtq a b with
     | some r=>ofV r
     | none=>none)
    | _,_=>none)
   | _=>none)
  | .builtin .min=>(match q4o tm c.args.toList with
   | some (x::l)=>(match toV x,toVL l with
    | some a,some b=>(match qh3 qrz a b with
     | some r=>ofV r
     | none=>none)
    | _,_=>none)
   | _=>none)
  | _=>none)
 | _=>none
def qhr (T:Tb) (kt:TypeId) (k:Value):List ME→Nat→Option (Option (Nat×U))
 | [],_=>some none
 | e::es,i=>match toV e.key with
  | none=>none
  | some k'=>match eqv T 50 kt k k' with
   | some true=>some (some (i,e.val))
   | some false=>qhr T kt k es (i+1)
   | none=>none
def qlf (T:Tb) (t:TypeId) (l:List U) (off:Nat):Option U:=match T.und t with
 | none=>none
 | some d=>cond (q72 d) (match q0x T t with
   | some n=>(match qfl l off n with
    | some cs=>some (.agg cs)
    | none=>none)
   | none=>none) (nth l off)
def qbw (T:Tb) (σ:Sg) (tm:List U) (op:Op):Option U :=
 match op with
 | .load t x=>(match q0u tm x with
  | some (.ptr k st off)=>(match cellsOf σ k st with
   | some l=>qlf T t l off
   | none=>none)
  | some (.iptr l)=>qlf T t l 0
  | _=>none)
 | .lookup t x k ok=>(match T.und t,q0u tm x,q0u tm k with
  | some (.map kt et),some m,some ku=>(match toV ku with
   | none=>none
   | some kv=>cond (qk5 T 50 kt kv)
    (match (match m with
      | .nilm=>some []
      | .map r=>(match gt σ.h r with
       | some (.map es _)=>some es
       | _=>none)
      | _=>none) with
     | none=>none
     | some es=>match qhr T kt kv es 0 with
      | none=>none
      | some (some (_,v))=>some (cond ok (.tup [v,.bool true]) v)
      | some none=>match T.inf et with
       | some (_,_,z)=>(match ofV z with
        | some zu=>some (cond ok (.tup [zu,.bool false]) zu)
        | none=>none)
       | none=>none) none)
  | _,_,_=>none)
 | _=>none
def wkU:U→U
 | .nils=>.isl false []
 | .isl _ l=>.isl false l
 | u=>u
def wkZ:List U→List U
 | []=>[]
 | u::l=>wkU u::wkZ l
def q8k (σ:Sg) (b:B):Sg:=⟨(σ.nx,b)::σ.h,σ.nx+1⟩
def qqf (σ:Sg) (sz:Nat) (x:U):Option (Nat×List U):=match x with
 | .nils=>some (0,[])
 | .isl _ l=>if (l.all fun c=>Nat.beq c.length sz)=true then some (l.length,l.flatten) else none
 | .sl k off n _=>(match rowOf σ k with
  | some l=>(match qfl l off (n*sz) with
   | some cs=>some (n,wkZ cs)
   | none=>none)
  | none=>none)
 | .vl k st off n=>(match qhc σ k st with
  | some (l,_,sz')=>cond (Nat.beq sz' sz) (match qfl l (off*sz) (n*sz) with
   | some cs=>some (n,cs)
   | none=>none) none
  | none=>none)
 | _=>none
def qds (T:Tb) (σ:Sg) (t xt:TypeId) (s x:U):Option (U×Sg) :=
 match T.und t,T.und xt with
 | some (.slice e),some (.slice _)=>(match T.inf e with
  | some (sz+1,by_,z)=>cond (Nat.beq z.cells.toList.length (sz+1)) (match qqf σ (sz+1) x with
   | none=>none
   | some (k,new)=>match s with
    | .nils=>if k*by_≤140737488355328∧k≤140737488355328 then some (.vl σ.nx 0 0 k,q8k σ (.vec new e (sz+1) 0)) else none
    | .isl true l=>if (l.length+k)*by_≤140737488355328∧l.length+k≤140737488355328∧0<k∧(l.all fun c=>Nat.beq c.length (sz+1))=true then some (.vl σ.nx 0 0 (l.length+k),q8k σ (.vec (l.flatten++new) e (sz+1) 0)) else none
    | .sl a off n c=>(match rowOf σ a with
     | none=>none
     | some l=>match qfl l off (n*(sz+1)) with
      | none=>none
      | some old=>if n=0∧c=0 then (if k*by_≤140737488355328∧k≤140737488355328 then some (.vl σ.nx 0 0 k,q8k σ (.vec new e (sz+1) 0)) else none)
       else if c<n+k then (if (n+k)*by_≤140737488355328∧n+k≤140737488355328∧0<k then some (.vl σ.nx 0 0 (n+k),q8k σ (.vec (wkZ old++new) e (sz+1) 0)) else none) else none)
    | .vl a st off n=>(match gt σ.h a with
     | some (.vec l e' sz' st')=>cond (Nat.beq st' st) (cond (Nat.beq e' e) (cond (Nat.beq sz' (sz+1)) (match qfl l (off*(sz+1)) (n*(sz+1)) with
      | none=>none
      | some p=>if (n+k)*by_≤140737488355328∧n+k≤140737488355328∧(0<k∧(off=0∨0<n)∨off=0∧n*(sz+1)=l.length) then some (.vl a (st+1) 0 (n+k),⟨ug σ.h a (.vec (p++new) e (sz+1) (st+1)),σ.nx⟩) else none) none) none) none
     | _=>none)
    | _=>none) none
  | _=>none)
 | _,_=>none
def qp3 (T:Tb) (σ:Sg) (t xt:TypeId) (s x:U):Option (U×Sg) :=
 match T.und t,T.und xt,s,x with
 | some (.slice e),some (.int _),.nils,.int _ i=>(match T.inf e with
  | some (sz+1,by_,z)=>(match qlg z.cells.toList with
   | some zu=>if 0<i∧i.toNat*by_≤140737488355328∧i.toNat≤140737488355328∧z.cells.toList.length=sz+1∧okL zu=true then
     some (.vl σ.nx 0 0 i.toNat,q8k σ (.vec (wkZ (List.replicate i.toNat zu).flatten) e (sz+1) 0)) else none
   | none=>none)
  | _=>none)
 | _,_,_,_=>none
def qln (T:Tb) (σ:Sg) (t xt:TypeId) (s x:U):Option (U×Sg):=match qds T σ t xt s x with
 | some r=>some r
 | none=>qp3 T σ t xt s x
def z5p (T:Tb) (σ:Sg) (t:TypeId) (d x:U):Option (U×Sg) :=
 match T.und t with
 | some (.slice e)=>(match q0x T e with
  | none=>none
  | some sz=>match qqf σ sz x with
   | none=>none
   | some (k,cs)=>match d with
    | .sl a off n _=>(match rowOf σ a with
     | some l=>if n=0∨k=0∨sz=0 then none else (match ql4 l off (cs.take (Nat.min k n*sz)) with
      | some l'=>(match qo3 σ a l' with
       | some σ'=>some (.int .i64 (Nat.min k n),σ')
       | none=>none)
      | none=>none)
     | none=>none)
    | _=>none)
 | _=>none
def wkB (σ:Sg) (k:Nat) (cs:List U):List U:=match gt σ.h k with
 | some (.vec _ _ _ _)=>wkZ cs
 | _=>cs
def qnj (T:Tb) (σ:Sg) (t:TypeId) (p u:U):Option (U×Sg) :=
 match p with
 | .ptr k st off=>(match q0x T t with
  | none=>none
  | some n=>match qa2 u with
   | none=>none
   | some cs=>cond (Nat.beq cs.length n) (cond (okL cs) (match cellsOf σ k st with
    | some l=>(match ql4 l off (wkB σ k cs) with
     | some l'=>(match qo3 σ k l' with
      | some σ'=>some (.junk,σ')
      | none=>none)
     | none=>none)
    | none=>none) none) none)
 | _=>none
def qa1 (z:List U) (n:Nat):List U:=(List.replicate n z).flatten
def qz6 (T:Tb) (σ:Sg) (t:TypeId) (l c:U):Option (U×Sg) :=
 match T.und t,l,c with
 | some (.slice e),.int _ a,.int _ b=>(match T.inf e with
  | some (sz,by_,z)=>(match qlg z.cells.toList with
   | some zu=>cond (okL zu) (cond (Nat.beq z.cells.toList.length sz) (if 0≤a∧a≤b∧by_*b.toNat≤281474976710656∧b≤281474976710656 then
     some (.sl σ.nx 0 a.toNat b.toNat,q8k σ (.row (qa1 (wkZ zu) b.toNat) e)) else none) none) none
   | none=>none)
  | none=>none)
 | _,_,_=>none
def qy1 (T:Tb) (σ:Sg) (t:TypeId) (x:U):Option (U×Sg) :=
 match T.und t with
 | some (.slice e)=>(match T.inf e with
  | some (sz,_,z)=>(match qlg z.cells.toList with
   | some zu=>cond (okL zu) (cond (Nat.beq z.cells.toList.length sz) (match x with
    | .vl k st off n=>(match qhc σ k st with
     | some (l,e',sz')=>cond (Nat.beq sz' sz) (if n=0 then some (.junk,σ) else (match ql4 l (off*sz) (qa1 (wkZ zu) n) with
      | some l'=>some (.junk,⟨ug σ.h k (.vec l' e' sz' st),σ.nx⟩)
      | none=>none)) none
     | none=>none)
    | .nils=>some (.junk,σ)
    | _=>none) none) none
   | none=>none)
  | none=>none)
 | _=>none
def qg7 (T:Tb) (σ:Sg) (t:TypeId) (n:Nat) (ps:List (Nat×U)):Option (U×Sg) :=
 match T.und t with
 | some (.slice e)=>(match T.inf e with
  | some (sz,_,z)=>cond (Nat.ble (n*sz) 16777216) (cond (Nat.ble n 16777216) (cond (Nat.beq z.cells.toList.length sz) (match qlg z.cells.toList with
   | none=>none
   | some zu=>match qe5 (fun i=>some (i*sz,sz)) (qa1 zu n) ps with
    | some cs=>cond (okL cs) (some (.sl σ.nx 0 n n,q8k σ (.row cs e))) none
    | none=>none) none) none) none
  | none=>none)
 | _=>none
def qza (es:List ME) (i:Nat) (f:ME→ME):List ME:=match es,i with
 | [],_=>[]
 | e::es,0=>f e::es
 | e::es,i+1=>e::qza es i f
def qxr (b:Int):List ME→Nat→Option Nat
 | [],_=>none
 | e::es,i=>cond (decide ((e.born:Int)=b)) (some i) (qxr b es (i+1))
def qoj (es:List ME) (i:Nat):List ME:=match es,i with
 | [],_=>[]
 | _::es,0=>es
 | e::es,i+1=>e::qoj es i
def qez (σ:Sg) (r:Nat) (es:List ME) (cl:Nat):Sg:=⟨ug σ.h r (.map es cl),σ.nx⟩
def qrx (T:Tb) (σ:Sg) (t:TypeId) (m k v:U):Option (U×Sg) :=
 match T.und t,m with
 | some (.map kt _),.map r=>(match toV k with
  | none=>none
  | some kv=>cond (qk5 T 50 kt kv) (cond (plain kv) (match gt σ.h r with
   | some (.map es cl)=>(match qhr T kt kv es 0 with
    | none=>none
    | some none=>some (.junk,qez σ r (es++[{ key:=k,val:=v,born:=cl }]) (cl+1))
    | some (some (i,_))=>match nth es i with
     | none=>none
     | some e=>match toV e.key with
      | none=>none
      | some kv'=>cond (veq 50 kv' kv) (some (.junk,qez σ r (qza es i fun e=>{ e with val:=v }) cl)) none)
   | _=>none) none) none)
 | _,_=>none
def qtp (T:Tb) (σ:Sg) (t:TypeId) (m k:U):Option (U×Sg) :=
 match T.und t,m with
 | some (.map kt et),.map r=>(match toV k with
  | none=>none
  | some kv=>cond (qk5 T 50 kt kv) (cond (plain kv) (match gt σ.h r with
   | some (.map es cl)=>(match qhr T kt kv es 0 with
    | none=>none
    | some none=>(match T.inf et with
     | none=>none
     | some (_,_,z)=>match ofV z with
      | none=>none
      | some zu=>some (.tup [zu,.int .i64 cl],qez σ r (es++[{ key:=k,val:=zu,born:=cl }]) (cl+1)))
    | some (some (i,v))=>match nth es i with
     | none=>none
     | some e=>match toV e.key with
      | none=>none
      | some kv'=>cond (veq 50 kv' kv) (some (.tup [v,.int .i64 e.born],qez σ r es cl)) none)
   | _=>none) none) none)
 | _,_=>none
def qy7 (σ:Sg) (m st v:U):Option (U×Sg) :=
 match m,st with
 | .map r,.int _ b=>(match gt σ.h r with
  | some (.map es cl)=>(match qxr b es 0 with
   | none=>none
   | some i=>some (.junk,qez σ r (qza es i fun e=>{ e with val:=v }) cl))
  | _=>none)
 | _,_=>none
def delU (T:Tb) (σ:Sg) (t:TypeId) (m k:U):Option (U×Sg) :=
 match T.und t,m with
 | some (.map kt _),.map r=>(match toV k with
  | none=>none
  | some kv=>cond (qk5 T 50 kt kv) (match gt σ.h r with
   | some (.map es cl)=>(match qhr T kt kv es 0 with
    | none=>none
    | some none=>some (.junk,qez σ r es cl)
    | some (some (i,_))=>some (.junk,qez σ r (qoj es i) cl))
   | _=>none) none)
 | _,_=>none
def qjr (T:Tb) (σ:Sg) (tm:List U) (op:Op):Option (U×Sg) :=
 match op with
 | .alloc e=>(match T.inf e with
  | some (_,_,z)=>(match qlg z.cells.toList with
   | some zu=>cond (okL zu) (some (.ptr σ.nx 0 0,q8k σ (.row zu e))) none
   | none=>none)
  | none=>none)
 | .box e x=>(match q0u tm x with
  | some u=>(match qa2 u with
   | some cs=>cond (okL cs) (some (.ptr σ.nx 0 0,q8k σ (.row cs e))) none
   | none=>none)
  | none=>none)
 | .store t a x=>(match q0u tm a,q0u tm x with
  | some p,some v=>qnj T σ t p v
  | _,_=>none)
 | .buildSlice t n ps=>(match qc0 tm ps.toList with
  | some qs=>qg7 T σ t n qs
  | none=>none)
 | .makeSlice t l c=>(match q0u tm l,q0u tm c with
  | some a,some b=>qz6 T σ t a b
  | _,_=>none)
 | .makeMap _ none=>some (.map σ.nx,q8k σ (.map [] 0))
 | .mapUpdate t m k x=>(match q0u tm m,q0u tm k,q0u tm x with
  | some a,some b,some v=>qrx T σ t a b v
  | _,_,_=>none)
 | .insert t m k x=>(match q0u tm m,q0u tm k,q0u tm x with
  | some a,some b,some v=>qrx T σ t a b v
  | _,_,_=>none)
 | .mapEntry t m k=>(match q0u tm m,q0u tm k with
  | some a,some b=>qtp T σ t a b
  | _,_=>none)
 | .entryStore _ m st x=>(match q0u tm m,q0u tm st,q0u tm x with
  | some a,some b,some v=>qy7 σ a b v
  | _,_,_=>none)
 | .call c=>(match c.callee with
  | .builtin .append=>(match q4o tm c.args.toList,c.argTypes.toList with
   | some [a,b],[t,xt]=>qln T σ t xt a b
   | _,_=>none)
  | .builtin .copy=>(match q4o tm c.args.toList,c.argTypes.toList with
   | some [a,b],t::_=>z5p T σ t a b
   | _,_=>none)
  | .builtin .delete=>(match q4o tm c.args.toList,c.argTypes.toList with
   | some [a,b],t::_=>delU T σ t a b
   | _,_=>none)
  | .builtin .clear=>(match q4o tm c.args.toList,c.argTypes.toList with
   | some [a],t::_=>qy1 T σ t a
   | _,_=>none)
  | _=>none)
 | _=>none
def opU (T:Tb) (σ:Sg) (tm:List U) (op:Op):Option (U×Sg) :=
 match q59 T σ tm op with
 | some v=>some (v,σ)
 | none=>match qbw T σ tm op with
  | some v=>some (v,σ)
  | none=>qjr T σ tm op
def q6z (T:Tb) (tm:List U) (op:Op):Option (FuncId×List U) :=
 match op with
 | .call c=>(match c.callee with
  | .value f=>(match q0u tm f with
   | some (.fn (.func g) first cap)=>(match T.fn g with
    | some fn=>cond fn.body.isSome (match q4o tm c.args.toList with
     | some args=>some (g,first++args++cap)
     | none=>none) none
    | none=>none)
   | _=>none)
  | _=>none)
 | _=>none
end Go.Vx
end
section
namespace Go.Vx
open Go Go.Rx
mutual
theorem q81:(u:U)→(v:Value)→toV u=some v→∀ (x:Cx) (v':Value),Rel x u v'↔v'=v
 | .bool b,v,h,x,v'=>by simp only [toV,zA] at h; subst h; simp [Rel]
 | .int k n,v,h,x,v'=>by simp only [toV,zA] at h; subst h; simp [Rel]
 | .str l,v,h,x,v'=>by simp only [toV,zA] at h; subst h; simp [Rel]
 | .nilp,v,h,x,v'=>by simp only [toV,zA] at h; subst h; simp [Rel]
 | .nils,v,h,x,v'=>by simp only [toV,zA] at h; subst h; simp [Rel]
 | .nilm,v,h,x,v'=>by simp only [toV,zA] at h; subst h; simp [Rel]
 | .nilf,v,h,x,v'=>by simp only [toV,zA] at h; subst h; simp [Rel]
 | .nili,v,h,x,v'=>by simp only [toV,zA] at h; subst h; simp [Rel]
 | .agg l,v,h,x,v'=>by
  simp only [toV] at h
  cases hk:okL l with
  | false=>simp [hk] at h
  | true =>
   simp only [hk,zC] at h
   cases hl:toVL l with
   | none=>simp [hl] at h
   | some vs =>
    simp only [hl,zA] at h
    subst h
    have:=q8s l vs hl x
    simp only [Rel,hk,and_true]
    constructor
    ·rintro ⟨ws,rfl,h1,h2⟩; rw [(this ws).1 ⟨h1,h2⟩]
    ·rintro rfl; exact ⟨vs,rfl,((this vs).2 rfl).1,((this vs).2 rfl).2⟩
 | .junk,v,h,x,v'=>by simp [toV] at h
 | .ptr _ _ _,v,h,x,v'=>by simp [toV] at h
 | .iptr _,v,h,x,v'=>by simp [toV] at h
 | .sl _ _ _ _,v,h,x,v'=>by simp [toV] at h
 | .vl _ _ _ _,v,h,x,v'=>by simp [toV] at h
 | .isl _ _,v,h,x,v'=>by simp [toV] at h
 | .map _,v,h,x,v'=>by simp [toV] at h
 | .fn _ _ _,v,h,x,v'=>by simp [toV] at h
 | .tup _,v,h,x,v'=>by simp [toV] at h
theorem q8s:(l:List U)→(vs:List Value)→toVL l=some vs→∀ (x:Cx) (ws:List Value),q1o x l ws↔ws=vs
 | [],vs,h,x,ws=>by
  simp only [toVL,zA] at h
  subst h
  exact ⟨fun h=>h.nil_inv,fun h=>h ▸ q1o.nil x⟩
 | u::l,vs,h,x,ws=>by
  simp only [toVL] at h
  cases hu:toV u with
  | none=>simp [hu] at h
  | some v =>
   cases hl:toVL l with
   | none=>simp [hu,hl] at h
   | some vs' =>
    simp only [hu,hl,zA] at h
    subst h
    constructor
    ·intro hr
     obtain ⟨w,ws',rfl,h1,h2⟩:=hr.inv
     rw [(q81 u v hu x w).1 h1,(q8s l vs' hl x ws').1 h2]
    ·rintro rfl
     exact q1o.cons ((q81 u v hu x v).2 rfl) ((q8s l vs' hl x vs').2 rfl)
end
mutual
theorem qj2:(v:Value)→(u:U)→ofV v=some u→plain v=true∧∀ x:Cx,Rel x u v
 | .bool b,u,h=>by simp only [ofV,zA] at h; subst h; simp [Rel,plain]
 | .int k n,u,h=>by simp only [ofV,zA] at h; subst h; simp [Rel,plain]
 | .string s,u,h=>by simp only [ofV,zA] at h; subst h; simp [Rel,plain]
 | .pointer none,u,h=>by simp only [ofV,zA] at h; subst h; simp [Rel,plain]
 | .slice none n c,u,h=>by
  simp only [ofV] at h
  split at h
  ·simp only [zA] at h; subst h; simp [Rel,plain]
  ·cases h
 | .map none,u,h=>by simp only [ofV,zA] at h; subst h; simp [Rel,plain]
 | .nilFunc,u,h=>by simp only [ofV,zA] at h; subst h; simp [Rel,plain]
 | .nilIface,u,h=>by simp only [ofV,zA] at h; subst h; simp [Rel,plain]
 | .agg ⟨l⟩,u,h=>by
  simp only [ofV] at h
  cases hl:qlg l with
  | none=>simp [hl] at h
  | some us =>
   simp only [hl] at h
   cases hk:okL us with
   | false=>simp [hk] at h
   | true =>
    simp only [hk,zC,zA] at h
    subst h
    obtain ⟨h1,h2⟩:=qf0 l us hl
    exact ⟨by simp [plain,h1],fun x=>by simp only [Rel]; exact ⟨l,rfl,(h2 x).1,(h2 x).2,hk⟩⟩
 | .float _ _,u,h=>by simp [ofV] at h
 | .complex _ _ _,u,h=>by simp [ofV] at h
 | .pointer (some _),u,h=>by simp [ofV] at h
 | .slice (some _) _ _,u,h=>by simp [ofV] at h
 | .map (some _),u,h=>by simp [ofV] at h
 | .chan _,u,h=>by simp [ofV] at h
 | .func _ _ _,u,h=>by simp [ofV] at h
 | .iface _ _,u,h=>by simp [ofV] at h
 | .tuple _,u,h=>by simp [ofV] at h
theorem qf0:(l:List Value)→(us:List U)→qlg l=some us→ql3 l=true∧∀ x:Cx,q1o x us l
 | [],us,h=>by simp only [qlg,zA] at h; subst h; exact ⟨by simp [ql3],fun x=>q1o.nil x⟩
 | v::l,us,h=>by
  simp only [qlg] at h
  cases hv:ofV v with
  | none=>simp [hv] at h
  | some u =>
   cases hl:qlg l with
   | none=>simp [hv,hl] at h
   | some us' =>
    simp only [hv,hl,zA] at h
    subst h
    obtain ⟨h1,h2⟩:=qj2 v u hv
    obtain ⟨h3,h4⟩:=qf0 l us' hl
    exact ⟨by simp [ql3,h1,h3],fun x=>q1o.cons (h2 x) (h4 x)⟩
end
section
variable {x:Cx} {tm:List U} {tv:List Value} (ht:q1o x tm tv)
include ht
theorem q0v {o:Operand} {u:U} (h:q0u tm o=some u):∃ v,evalO tv o=some v∧Rel x u v:=by
 cases o with
 | tmp t =>
  simp only [q0u,q2o] at h
  obtain ⟨v,h1,h2⟩:=ht.get h
  exact ⟨v,by simp [evalO,q2o,h1],h2⟩
 | const v =>
  obtain ⟨h1,h2⟩:=qj2 v u h
  exact ⟨v,by simp [evalO,h1],h2 x⟩
 | func f =>
  simp only [q0u,zA] at h
  subst h
  exact ⟨_,rfl,by simp only [Rel]; exact ⟨[],[],rfl,by simp [q3z],rfl,by simp [q3z],rfl⟩⟩
 | global g=>simp [q0u] at h
theorem q9b {l:List Operand} {us:List U} (h:q4o tm l=some us):∃ vs,q6o tv l=some vs∧q1o x us vs:=by
 induction l generalizing us with
 | nil=>simp only [q4o,zA] at h; subst h; exact ⟨[],rfl,q1o.nil x⟩
 | cons o l ih =>
  simp only [q4o] at h
  cases h1:q0u tm o with
  | none=>simp [h1] at h
  | some u =>
   cases h2:q4o tm l with
   | none=>simp [h1,h2] at h
   | some us' =>
    simp only [h1,h2,zA] at h
    subst h
    obtain ⟨v,e1,r1⟩:=q0v ht h1
    obtain ⟨vs,e2,r2⟩:=ih h2
    exact ⟨v::vs,by simp [q6o,e1,e2],q1o.cons r1 r2⟩
inductive qt1 (x:Cx):List (Nat×U)→List (Nat×Value)→Prop
 | nil:qt1 x [] []
 | cons {i:Nat} {u:U} {v:Value} {l:List (Nat×U)} {m:List (Nat×Value)}:Rel x u v→qt1 x l m→qt1 x ((i,u)::l) ((i,v)::m)
theorem qmi {l:List (Nat×Operand)} {us:List (Nat×U)} (h:qc0 tm l=some us):∃ vs,qmg tv l=some vs∧qt1 x us vs:=by
 induction l generalizing us with
 | nil=>simp only [qc0,zA] at h; subst h; exact ⟨[],rfl,.nil⟩
 | cons o l ih =>
  obtain ⟨i,o⟩:=o
  simp only [qc0] at h
  cases h1:q0u tm o with
  | none=>simp [h1] at h
  | some u =>
   cases h2:qc0 tm l with
   | none=>simp [h1,h2] at h
   | some us' =>
    simp only [h1,h2,zA] at h
    subst h
    obtain ⟨v,e1,r1⟩:=q0v ht h1
    obtain ⟨vs,e2,r2⟩:=ih h2
    exact ⟨(i,v)::vs,by simp [qmg,e1,e2],.cons r1 r2⟩
theorem qmh {o:Option Operand} {r:Option Value} (h:qa3 tm o=some r):qc7 tv o=some r:=by
 cases o with
 | none=>simpa [qa3,qc7] using h
 | some o =>
  simp only [qa3] at h
  cases h1:q0u tm o with
  | none=>simp [h1] at h
  | some u =>
   obtain ⟨v,e1,r1⟩:=q0v ht h1
   cases u with
   | int k n =>
    simp only [h1,zA] at h
    simp only [Rel] at r1
    subst r1; subst h
    simp [qc7,e1]
   | _=>simp [h1] at h
end
variable {x:Cx}
variable {u:U}
variable {v:Value}
theorem g1_ok {f:Value→Option Value} {r:U} (h:g1 f u=some r) (hr:Rel x u v):∃ rv,f v=some rv∧Rel x r rv:=by
 unfold g1 at h
 cases h1:toV u with
 | none=>simp [h1] at h
 | some v0 =>
  simp only [h1] at h
  cases h2:f v0 with
  | none=>simp [h2] at h
  | some rv =>
   simp only [h2] at h
   rw [(q81 u v0 h1 x v).1 hr]
   exact ⟨rv,h2,(qj2 rv r h).2 x⟩
theorem g2_ok {f:Value→Value→Option Value} {a b r:U} {va vb:Value} (h:g2 f a b=some r) (ha:Rel x a va) (hb:Rel x b vb):∃ rv,f va vb=some rv∧Rel x r rv:=by
 unfold g2 at h
 cases h1:toV a with
 | none=>simp [h1] at h
 | some v1 =>
  cases h2:toV b with
  | none=>simp [h1,h2] at h
  | some v2 =>
   simp only [h1,h2] at h
   cases h3:f v1 v2 with
   | none=>simp [h3] at h
   | some rv =>
    simp only [h3] at h
    rw [(q81 a v1 h1 x va).1 ha,(q81 b v2 h2 x vb).1 hb]
    exact ⟨rv,h3,(qj2 rv r h).2 x⟩
theorem qs2 (hr:Rel x u v) (hn:okC u=true):v.oneCell'=true:=by
 cases u with
 | junk=>simp [okC] at hn
 | agg l=>simp [okC] at hn
 | tup l=>simp [okC] at hn
 | ptr k st off=>simp only [Rel] at hr; exact hr.1
 | sl k off n c=>simp only [Rel] at hr; exact hr.1
 | vl k st off n=>simp only [Rel] at hr; exact hr.1
 | map k=>simp only [Rel] at hr; exact hr.1
 | iptr l=>simp only [Rel] at hr; obtain ⟨_,_,_,_,rfl,_⟩:=hr; rfl
 | isl t l=>simp only [Rel] at hr; rcases hr with ⟨_,rfl | ⟨_,rfl⟩⟩ | ⟨_,_,_,rfl,_⟩<;>rfl
 | fn f a b=>simp only [Rel] at hr; obtain ⟨_,_,rfl,_⟩:=hr; rfl
 | _=>simp only [Rel] at hr; subst hr; rfl
variable {l:List U}
variable {vs:List Value}
theorem qbe (hr:q1o x l vs) (hk:okL l=true):q78 vs=true:=by
 induction l generalizing vs with
 | nil=>rw [hr.nil_inv]; rfl
 | cons u l ih =>
  obtain ⟨v,vs',rfl,h1,h2⟩:=hr.inv
  simp only [okL] at hk
  obtain ⟨k1,k2⟩:=q6s hk
  simp [q78,qs2 h1 k1,ih h2 k2]
theorem qm8 {cs:List U} (hr:Rel x u v) (h:qa2 u=some cs):q1o x cs v.cells.toList∧okL cs=true:=by
 have one:okC u=true→cs=[u]→q1o x cs v.cells.toList∧okL cs=true:=fun h1 h2=>by
  subst h2
  have:=qs2 hr h1
  have e:v.cells = #[v]:=by cases v<;>first | rfl | (simp [Value.oneCell'] at this)
  rw [e]
  exact ⟨q1o.cons hr (q1o.nil x),by simp [okL,h1]⟩
 cases u with
 | junk=>simp [qa2] at h
 | tup l=>simp [qa2] at h
 | agg l =>
  simp only [qa2,zA] at h
  subst h
  simp only [Rel] at hr
  obtain ⟨vs,rfl,h1,h2,h3⟩:=hr
  exact ⟨⟨h1,h2⟩,h3⟩
 | _=>simp only [qa2,zA] at h; exact one rfl h.symm
theorem z72 (h:Rel x u v):Rel x (wkU u) v:=by
 cases u with
 | nils=>simp only [wkU,Rel] at *; exact .inl ⟨trivial,.inl h⟩
 | isl t l =>
  simp only [wkU,Rel] at *
  rcases h with h | ⟨i,off,c,h1,h2,h3⟩
  ·exact .inl h
  ·exact .inr ⟨i,off,c,h1,(fun h=>by cases h),h3⟩
 | _=>exact h
theorem wkU_ok (u:U):okC (wkU u)=okC u:=by cases u<;>rfl
theorem qqo:∀ l:List U,(wkZ l).length=l.length
 | []=>rfl
 | u::l=>by simp [wkZ,qqo l]
theorem qp0:∀ l:List U,okL (wkZ l)=okL l
 | []=>rfl
 | u::l=>by simp [wkZ,okL,wkU_ok,qp0 l]
theorem qw9 {x:Cx}:∀ {l:List U} {vs:List Value},q3z x l vs→q3z x (wkZ l) vs
 | [],vs,h=>by simp [wkZ,q3z]
 | u::l,[],h=>by simp [q3z] at h
 | u::l,v::vs,h=>by simp only [wkZ,q3z] at *; exact ⟨z72 h.1,qw9 h.2⟩
theorem qnq (h:q1o x l vs):q1o x (wkZ l) vs:=⟨qw9 h.1,by rw [qqo]; exact h.2⟩
theorem z71 {σ:Sg} {k:Nat} (h:q1o x l vs):q1o x (wkB σ k l) vs:=by
 unfold wkB; split
 ·exact qnq h
 ·exact h
theorem wkB_ok (σ:Sg) (k:Nat) (l:List U):okL (wkB σ k l)=okL l:=by
 unfold wkB; split
 ·exact qp0 l
 ·rfl
structure Out (x y:Cx):Prop where
 h:qfj y
 mo:Mo x.σ.nx x y
 fr:∀ F,Fr F x→Fr F y
def nc:qib:=fun _ _ _=>none
def Sim (T:Tb) (x:Cx) (tv:List Value) (op:Op) (u:U) (σ':Sg):Prop:=∃ v y,opX T nc tv x.s op=some (v,y.s)∧y.σ=σ'∧Rel y u v∧Out x y
theorem Mo.refl (n:Nat) (x:Cx):Mo n x x:=⟨fun k _ h2=>⟨h2,fun b hb=>⟨b,hb,zF _,fun _=>⟨rfl,fun l e sz st h=>⟨l,h⟩⟩⟩⟩,fun _ _ _ h=>h⟩
theorem Out.refl {x:Cx} (h:qfj x):Out x x:=⟨h,Mo.refl _ _,fun _ h=>h⟩
variable {T:Tb}
variable {tv:List Value}
variable {op:Op}
theorem Sim.same (hx:qfj x) (h:opX T nc tv x.s op=some (v,x.s)) (hr:Rel x u v):Sim T x tv op u x.σ:=⟨v,x,h,rfl,hr,Out.refl hx⟩
variable {call:qib}
variable {s:S}
theorem z32 (h:q57 T tv op=some v):opX T call tv s op=some (v,s):=by simp [opX,h]
theorem qj4 (h0:q57 T tv op=none) (h:q97 T tv s op=some v):opX T call tv s op=some (v,s):=by simp [opX,h,h0]
theorem qve {r:Value×S} (h0:q57 T tv op=none) (h1:q97 T tv s op=none) (h:qnv T tv s op=some r):opX T call tv s op=some r:=by simp [opX,h,h0,h1]
def bump (x:Cx):Cx:=⟨x.ρ,x.σ,⟨x.s.h,x.s.nx+1⟩⟩
theorem qtc (n:Nat) (x:Cx):Mo n x (bump x):=⟨fun k _ h2=>⟨h2,fun b hb=>⟨b,hb,zF _,fun _=>⟨rfl,fun l e sz st h=>⟨l,h⟩⟩⟩⟩,fun _ _ _ h=>h⟩
theorem qp8 (h:Rel x u v):Rel (bump x) u v:=(qtc x.σ.nx x).ke u v (Rel.bel u v h) h
theorem bumpE (h:q1o x l vs):q1o (bump x) l vs:=(qtc x.σ.nx x).ke.E h.bel h
theorem z1o (h:qfj x):Out x (bump x):=by
 refine ⟨⟨fun k b hb=>?_,h.inj,fun i b hb=>Nat.lt_succ_of_lt (h.bd i b hb)⟩,qtc _ _,fun F hF=>hF⟩
 obtain ⟨h1,h2⟩:=h.ok k b hb
 refine ⟨h1,?_⟩
 cases b with
 | row l e=>obtain ⟨k1,i,l',e1,e2,e3⟩:=h2; exact ⟨k1,i,l',e1,e2,bumpE e3⟩
 | vec l e sz st =>
  obtain ⟨k1,k2,h3⟩:=h2
  refine ⟨k1,k2,?_⟩
  rcases h3 with h3 | ⟨i,l',e1,e2,e3⟩
  ·exact .inl h3
  ·exact .inr ⟨i,l',e1,e2,bumpE e3⟩
 | map es cl =>
  obtain ⟨i,es',e1,e2,e3⟩:=h2
  refine ⟨i,es',e1,e2,e3.1,fun j e he=>?_⟩
  obtain ⟨v,q1,q2,q3,q4⟩:=e3.2 j e he
  exact ⟨v,q1,qp8 q2,qp8 q3,q4⟩
end Go.Vx
end
section
namespace Go.Vx
open Go Go.Rx
variable {l:List Value}
variable {n:Nat}
theorem z3l (h:n≤l.length):qnl l n=some (l.take n):=by
 induction l generalizing n with
 | nil=>simp at h; subst h; simp [qnl]
 | cons a l ih=>cases n with
  | zero=>simp [qnl]
  | succ n=>simp [qnl,ih (by simpa using h)]
variable {off:Nat}
theorem qsr (h:off+n≤l.length):seg l off n=some ((l.drop off).take n):=z3l (by simp; omega)
variable {vs:List Value}
theorem z6j (h:vs.length≤l.length):qxe l vs=some (vs++l.drop vs.length):=by
 induction vs generalizing l with
 | nil=>simp [qxe]
 | cons v vs ih=>cases l with
  | nil=>simp at h
  | cons a l=>simp [qxe,ih (by simpa using h)]
theorem z6k (h:off+vs.length≤l.length):qnx l off vs=some (l.take off++(vs++l.drop (off+vs.length))):=by
 induction l generalizing off with
 | nil =>
  simp at h
  obtain ⟨rfl,rfl⟩:=h
  simp [qnx,qxe]
 | cons a l ih=>cases off with
  | zero=>simp only [qnx,Nat.zero_add] at *; rw [z6j h]; simp
  | succ off=>simp [qnx,ih (off:=off) (by simp at h; omega),Nat.succ_add]
variable {l:List U}
theorem qcd (h:okL l=true) (n:Nat):okL (l.take n)=true:=(qf1 _).2 fun u hu=>(qf1 l).1 h u (List.mem_of_mem_take hu)
theorem q8l (h:okL l=true) (n:Nat):okL (l.drop n)=true:=(qf1 _).2 fun u hu=>(qf1 l).1 h u (List.mem_of_mem_drop hu)
theorem q66 {a b:List U} (h:okL a=true) (h':okL b=true):okL (a++b)=true:=(qf1 _).2 fun u hu=>(yD.1 hu).elim ((qf1 a).1 h u) ((qf1 b).1 h' u)
variable {r:List U}
theorem qbp (h:qfl l off n=some r):off+n≤l.length∧r=(l.drop off).take n:=by
 unfold qfl at h; split at h
 ·simp at h; exact ⟨by assumption,h.symm⟩
 ·cases h
theorem qs6 {vs:List U} (h:ql4 l off vs=some r):off+vs.length≤l.length∧r=l.take off++(vs++l.drop (off+vs.length)):=by
 unfold ql4 at h; split at h
 ·simp at h; exact ⟨by assumption,h.symm⟩
 ·cases h
variable {x:Cx}
theorem qpv {vs:List U} {lv vv:List Value} (h:ql4 l off vs=some r) (hl:q1o x l lv) (hv:q1o x vs vv):∃ rv,qnx lv off vv=some rv∧q1o x r rv∧(okL l=true→okL vs=true→okL r=true):=by
 obtain ⟨h1,rfl⟩:=qs6 h
 refine ⟨_,z6k (by rw [← hl.2,← hv.2]; exact h1),?_,fun a b=>q66 (qcd a _) (q66 b (q8l a _))⟩
 rw [← hv.2]
 exact (hl.take _).append (hv.append (hl.drop _))
theorem z0b {lv:List Value} (h:qfl l off n=some r) (hl:q1o x l lv):seg lv off n=some ((lv.drop off).take n)∧q1o x r ((lv.drop off).take n):=by
 obtain ⟨h1,rfl⟩:=qbp h
 exact ⟨qsr (by rw [← hl.2]; exact h1),(hl.drop _).take _⟩
theorem qin {x:Cx} {place:Nat→Option (Nat×Nat)}:∀ {ps:List (Nat×U)} {pv:List (Nat×Value)} {cells r:List U} {cv:List Value},qt1 x ps pv→q1o x cells cv→qe5 place cells ps=some r→∃ rv,qk3 place cv pv=some rv∧q1o x r rv
 | _,_,cells,r,cv,.nil,hc,h=>by simp only [qe5,zA] at h; subst h; exact ⟨cv,rfl,hc⟩
 | _,_,cells,r,cv,.cons (i:=i) (u:=u) (v:=v) (l:=l) (m:=m) hu hp,hc,h=>by
  simp only [qe5] at h
  cases h1:place i with
  | none=>simp [h1] at h
  | some q =>
   obtain ⟨off,size⟩:=q
   simp only [h1] at h
   cases h2:qa2 u with
   | none=>simp [h2] at h
   | some cs =>
    simp only [h2] at h
    obtain ⟨c1,c2⟩:=qm8 hu h2
    cases h3:Nat.beq cs.length size with
    | false=>simp [h3] at h
    | true =>
     simp only [h3,zC] at h
     cases h4:ql4 cells off cs with
     | none=>simp [h4] at h
     | some c =>
      simp only [h4] at h
      obtain ⟨rv,q1,q2,_⟩:=qpv h4 hc c1
      obtain ⟨rv',q3,q4⟩:=qin hp q2 h
      exact ⟨rv',by simp only [qk3,h1]; rw [← c1.2,h3]; simp only [zC,q1,q3],q4⟩
variable {T:Tb}
variable {t:TypeId}
variable {u:U}
theorem qvk {cs:List U} (h:z38 T t cs off=some u) (hc:q1o x cs vs) (hk:okL cs=true):∃ v,qli T t vs off=some v∧Rel x u v:=by
 unfold z38 at h
 unfold qli
 cases hd:T.und t with
 | none=>simp [hd] at h
 | some d =>
  simp only [hd] at h ⊢
  cases ha:q72 d with
  | true =>
   simp only [ha,zC] at h ⊢
   cases hs:q0x T t with
   | none=>simp [hs] at h
   | some n =>
    simp only [hs,zA] at h ⊢
    subst h
    refine ⟨_,rfl,?_⟩
    simp only [Rel]
    exact ⟨_,rfl,((hc.drop off).take n).1,((hc.drop off).take n).2,qcd (q8l hk _) _⟩
  | false =>
   simp only [ha,zD,q2o] at h ⊢
   exact hc.get h
theorem qxt {ps:List (Nat×U)} {pv:List (Nat×Value)} (h:qog T t ps=some u) (hp:qt1 x ps pv):∃ v,qr0 T t pv=some v∧Rel x u v:=by
 unfold qog at h
 unfold qr0
 cases hi:T.inf t with
 | none=>simp [hi] at h
 | some q =>
  obtain ⟨a,b,z⟩:=q
  simp only [hi] at h ⊢
  cases hz:qlg z.cells.toList with
  | none=>simp [hz] at h
  | some zu =>
   simp only [hz] at h
   have hzr:=(qf0 _ _ hz).2 x
   cases hd:T.und t with
   | none=>simp [hd] at h
   | some d =>
    cases d with
    | struct fs =>
     simp only [hd] at h ⊢
     cases hs:qge T fs.toList with
     | false=>simp [hs] at h
     | true =>
      simp only [hs,zC] at h ⊢
      cases hf:qe5 (qdv T fs.toList) zu ps with
      | none=>simp [hf] at h
      | some cs =>
       simp only [hf] at h
       cases hk:okL cs with
       | false=>simp [hk] at h
       | true =>
        simp only [hk,zC,zA] at h
        subst h
        obtain ⟨rv,q1,q2⟩:=qin hp hzr hf
        exact ⟨.agg rv.toArray,by simp [q1],by simp only [Rel]; exact ⟨rv,rfl,q2.1,q2.2,hk⟩⟩
    | array n e =>
     simp only [hd] at h ⊢
     cases hs:q0x T e with
     | none=>simp [hs] at h
     | some sz =>
      simp only [hs] at h ⊢
      cases hf:qe5 (fun i=>some (i*sz,sz)) zu ps with
      | none=>simp [hf] at h
      | some cs =>
       simp only [hf] at h
       cases hk:okL cs with
       | false=>simp [hk] at h
       | true =>
        simp only [hk,zC,zA] at h
        subst h
        obtain ⟨rv,q1,q2⟩:=qin hp hzr hf
        exact ⟨.agg rv.toArray,by simp [q1],by simp only [Rel]; exact ⟨rv,rfl,q2.1,q2.2,hk⟩⟩
    | _=>simp [hd] at h
variable {σ:Sg}
variable {k:Nat}
theorem qg6 {st:Nat} (h:live σ k st=true):∃ b,gt σ.h k=some b∧b.st=st:=by
 unfold live at h
 cases hb:gt σ.h k with
 | none=>simp [hb] at h
 | some b=>simp only [hb,beq_eq,decide_eq_true_eq] at h; exact ⟨b,rfl,h⟩
variable {v:Value}
theorem qew {st:Nat} (hl:live x.σ k st=true) (hr:Rel x (.ptr k st off) v):∃ i,x.ρ k=some i∧v = .pointer (some ⟨i,off,none⟩):=by
 obtain ⟨b,h1,h2⟩:=qg6 hl
 simp only [Rel] at hr
 exact ((hr.2.2 b h1).2 h2.symm)
theorem qex {c:Nat} (hl:live x.σ k 0=true) (hr:Rel x (.sl k off n c) v):∃ i,x.ρ k=some i∧v = .slice (some ⟨i,off,none⟩) n c∧c<q05∧n≤c:=by
 obtain ⟨b,h1,h2⟩:=qg6 hl
 simp only [Rel] at hr
 exact ((hr.2.2 b h1).2 h2.symm)
theorem qlu (hl:live x.σ k 0=true) (hr:Rel x (.map k) v):∃ i,x.ρ k=some i∧v = .map (some i):=by
 obtain ⟨b,h1,h2⟩:=qg6 hl
 simp only [Rel] at hr
 exact ((hr.2.2 b h1).2 h2.symm)
theorem qhx {st:Nat} (hl:live x.σ k st=true) (hr:Rel x (.vl k st off n) v):∃ l e sz,gt x.σ.h k=some (.vec l e sz st)∧z0y off n v sz (x.ρ k):=by
 obtain ⟨b,h1,h2⟩:=qg6 hl
 simp only [Rel] at hr
 obtain ⟨l,e,sz,rfl,h3⟩:=(hr.2.2 b h1).2 h2.symm
 exact ⟨l,e,sz,h1,h3⟩
theorem qh2 {st:Nat} {r:List U×TypeId×Nat} (h:qhc σ k st=some r):gt σ.h k=some (.vec r.1 r.2.1 r.2.2 st)∧live σ k st=true:=by
 unfold qhc at h
 cases hb:gt σ.h k with
 | none=>simp [hb] at h
 | some b =>
  cases b with
  | vec l e sz st' =>
   simp only [hb,beq_eq] at h
   by_cases hst:st'=st
   ·subst hst; simp at h; subst h; exact ⟨rfl,by simp [live,hb,B.st]⟩
   ·simp [hst] at h
  | _=>simp [hb] at h
theorem qki (h:rowOf σ k=some l):∃ e,gt σ.h k=some (.row l e)∧live σ k 0=true:=by
 unfold rowOf at h
 cases hb:gt σ.h k with
 | none=>simp [hb] at h
 | some b =>
  cases b with
  | row l' e=>simp [hb] at h; subst h; exact ⟨e,rfl,by simp [live,hb,B.st]⟩
  | _=>simp [hb] at h
theorem z0u {sz:Nat} {o:Option Nat} (h:z0y off n v sz o):∃ a c,v = .slice a n c:=by
 cases o with
 | none=>obtain ⟨_,rfl,o,rfl,_⟩:=h; exact ⟨o,0,rfl⟩
 | some i=>rcases h with ⟨_,rfl,a,c,rfl,_⟩ | rfl<;>exact ⟨_,_,rfl⟩
theorem qqn (hx:qfj x) {st:Nat} (hl:live x.σ k st=true) (hr:Rel x (.vl k st off n) v) (hn:0<n) :
  ∃ i l e sz l',gt x.σ.h k=some (.vec l e sz st)∧x.ρ k=some i∧v = .slice (some ⟨i,off*sz,none⟩) n (q05+off)∧lk x.s.h i=some (.inl (l',e,sz+2))∧q1o x l l'∧0<sz∧okL l=true:=by
 obtain ⟨l,e,sz,h1,h2⟩:=qhx hl hr
 obtain ⟨_,k1,k2,h3⟩:=hx.ok k _ h1
 rcases h3 with ⟨_,h3⟩ | ⟨i,l',e1,e2,e3⟩
 ·rw [h3] at h2; obtain ⟨_,rfl,_⟩:=h2; omega
 ·rw [e1] at h2
  rcases h2 with ⟨_,rfl,_⟩ | h2
  ·omega
  ·exact ⟨i,l,e,sz,l',h1,e1,h2,e2,e3,k2,k1⟩
theorem qw5 (hx:qfj x) (hr:Rel x u v) (h:there x.σ u=k) (hk:k≠0) :
  (k=1∧∃ a,v = .pointer (some a))∨(k=2∧∃ a n c,v = .slice (some a) n c)∨(k=3∧∃ r,v = .map (some r)):=by
 cases u with
 | ptr k' st off =>
  simp only [there] at h
  cases hl:live x.σ k' st with
  | false=>simp [hl] at h; omega
  | true=>simp [hl] at h; obtain ⟨i,_,rfl⟩:=qew hl hr; exact .inl ⟨h.symm,_,rfl⟩
 | iptr l=>simp only [there] at h; simp only [Rel] at hr; obtain ⟨i,off,_,_,rfl,_⟩:=hr; exact .inl ⟨h.symm,_,rfl⟩
 | sl k' off n c =>
  simp only [there] at h
  cases hl:live x.σ k' 0 with
  | false=>simp [hl] at h; omega
  | true=>simp [hl] at h; obtain ⟨i,_,rfl,_⟩:=qex hl hr; exact .inr (.inl ⟨h.symm,_,_,_,rfl⟩)
 | vl k' st off n =>
  cases n with
  | zero=>simp [there] at h; omega
  | succ n =>
   simp only [there] at h
   cases hl:live x.σ k' st with
   | false=>simp [hl] at h; omega
   | true =>
    simp [hl] at h
    obtain ⟨i,l,e,sz,l',_,_,rfl,_⟩:=qqn hx hl hr (Nat.succ_pos _)
    exact .inr (.inl ⟨h.symm,_,_,_,rfl⟩)
 | isl t l =>
  cases l with
  | nil=>simp [there] at h; omega
  | cons c l =>
   simp only [there] at h
   simp only [Rel] at hr
   rcases hr with ⟨hr,_⟩ | ⟨i,off,c',rfl,_⟩
   ·cases hr
   ·exact .inr (.inl ⟨h.symm,_,_,_,rfl⟩)
 | map k' =>
  simp only [there] at h
  cases hl:live x.σ k' 0 with
  | false=>simp [hl] at h; omega
  | true=>simp [hl] at h; obtain ⟨i,_,rfl⟩:=qlu hl hr; exact .inr (.inr ⟨h.symm,_,rfl⟩)
 | _=>simp [there] at h; omega
theorem qos (hr:Rel x u v) (h:qdx u=k) (hk:k≠0):(k=1∧v = .pointer none)∨(k=2∧v = .slice none 0 0)∨(k=3∧v = .map none):=by
 cases u with
 | nilp=>simp only [qdx] at h; simp only [Rel] at hr; exact .inl ⟨h.symm,hr⟩
 | nils=>simp only [qdx] at h; simp only [Rel] at hr; exact .inr (.inl ⟨h.symm,hr⟩)
 | nilm=>simp only [qdx] at h; simp only [Rel] at hr; exact .inr (.inr ⟨h.symm,hr⟩)
 | _=>simp [qdx] at h; omega
theorem qze (hx:qfj x) {op:BinOp} {a b:U} {va vb:Value} (h:qor T x.σ op t a b=some u) (ha:Rel x a va) (hb:Rel x b vb):∃ v,qnz T op t va vb=some v∧Rel x u v:=by
 unfold qor at h
 simp only [beq_eq] at h
 by_cases h0:qh4 T t=0
 ·simp [h0] at h
 ·simp only [h0,yB,zD] at h
  have key:cmpB op=some u →
    (qh4 T t=1∧((∃ p,va = .pointer (some p))∧vb = .pointer none∨va = .pointer none∧∃ p,vb = .pointer (some p))) ∨
    (qh4 T t=2∧((∃ p n c,va = .slice (some p) n c)∧vb = .slice none 0 0∨va = .slice none 0 0∧∃ p n c,vb = .slice (some p) n c)) ∨
    (qh4 T t=3∧((∃ p,va = .map (some p))∧vb = .map none∨va = .map none∧∃ p,vb = .map (some p)))→∃ v,qnz T op t va vb=some v∧Rel x u v:=by
   intro hop hk
   have hund:∀ {k:Nat},qh4 T t=k→k≠0→(k=1→∃ e,T.und t=some (.pointer e))∧(k=2→∃ e,T.und t=some (.slice e))∧(k=3→∃ e e',T.und t=some (.map e e')):=by
    intro k hk hk0
    unfold qh4 at hk
    cases hd:T.und t with
    | none=>simp [hd] at hk; omega
    | some d=>cases d<;>simp [hd] at hk<;>subst hk<;>simp at hk0 ⊢
   rcases hk with ⟨hk,hv⟩ | ⟨hk,hv⟩ | ⟨hk,hv⟩
   ·obtain ⟨e,he⟩:=(hund hk (by omega)).1 rfl
    rcases hv with ⟨⟨p,rfl⟩,rfl⟩ | ⟨rfl,p,rfl⟩<;>cases op<;>simp [cmpB] at hop<;>subst hop<;>simp [qnz,qcy,eqv,he,Rel]
   ·obtain ⟨e,he⟩:=(hund hk (by omega)).2.1 rfl
    rcases hv with ⟨⟨p,n,c,rfl⟩,rfl⟩ | ⟨rfl,p,n,c,rfl⟩<;>cases op<;>simp [cmpB] at hop<;>subst hop<;>simp [qnz,qcy,eqv,he,Rel]
   ·obtain ⟨e,e',he⟩:=(hund hk (by omega)).2.2 rfl
    rcases hv with ⟨⟨p,rfl⟩,rfl⟩ | ⟨rfl,p,rfl⟩<;>cases op<;>simp [cmpB] at hop<;>subst hop<;>simp [qnz,qcy,eqv,he,Rel]
  by_cases h1:there x.σ a=qh4 T t
  ·by_cases h2:qdx b=qh4 T t
   ·simp only [h1,h2,yC,zC] at h
    refine key h ?_
    rcases qw5 hx ha h1 h0 with ⟨e1,q⟩ | ⟨e1,q⟩ | ⟨e1,q⟩<;>rcases qos hb h2 h0 with ⟨e2,q'⟩ | ⟨e2,q'⟩ | ⟨e2,q'⟩<;>first | omega | skip
    ·exact .inl ⟨e1,.inl ⟨q,q'⟩⟩
    ·exact .inr (.inl ⟨e1,.inl ⟨q,q'⟩⟩)
    ·exact .inr (.inr ⟨e1,.inl ⟨q,q'⟩⟩)
   ·simp [h1,h2] at h
  ·simp only [h1,yB,zD] at h
   by_cases h2:qdx a=qh4 T t
   ·by_cases h3:there x.σ b=qh4 T t
    ·simp only [h2,h3,yC,zC] at h
     refine key h ?_
     rcases qw5 hx hb h3 h0 with ⟨e1,q⟩ | ⟨e1,q⟩ | ⟨e1,q⟩<;>rcases qos ha h2 h0 with ⟨e2,q'⟩ | ⟨e2,q'⟩ | ⟨e2,q'⟩<;>first | omega | skip
     ·exact .inl ⟨e1,.inr ⟨q',q⟩⟩
     ·exact .inr (.inl ⟨e1,.inr ⟨q',q⟩⟩)
     ·exact .inr (.inr ⟨e1,.inr ⟨q',q⟩⟩)
    ·simp [h2,h3] at h
   ·simp [h2] at h
theorem z5h (hx:qfj x) {op:BinOp} {a b:U} {va vb:Value} (h:binU T x.σ op t a b=some u) (ha:Rel x a va) (hb:Rel x b vb):∃ v,qnz T op t va vb=some v∧Rel x u v:=by
 unfold binU at h
 cases h1:g2 (qnz T op t) a b with
 | some r=>simp only [h1,zA] at h; subst h; exact g2_ok h1 ha hb
 | none=>simp only [h1] at h; exact qze hx h ha hb
variable {v:Value}
variable {n:Nat}
theorem q3j {y y':Nat} (h:q2v v y=some n) (hy:y≤y'):q2v v y'=some n∧n≤y:=by
 unfold q2v at *
 cases v with
 | int k i =>
  simp only at *
  cases h1:inR i (y+1) with
  | false=>simp [h1] at h
  | true =>
   simp only [h1,zC,zA] at h
   obtain ⟨a,b⟩:=qeu h1
   have:inR i (y'+1)=true:=by
    unfold inR
    cases i with
    | ofNat k=>simp at b ⊢; omega
    | negSucc k=>omega
   exact ⟨by simp [this,h],by omega⟩
 | _=>simp at h
variable {c:Nat}
variable {lo:Option Value}
variable {hi:Option Value}
variable {l:Nat}
variable {h:Nat}
variable {m:Nat}
theorem qdk (hb:q0y n n lo hi none=some (l,h,m)) (hc:n≤c):q0y n c lo hi none=some (l,h,c)∧l≤h∧h≤n∧m=n:=by
 unfold q0y at *
 simp only at *
 cases hi with
 | none =>
  simp only at *
  cases lo with
  | none=>simp only [zA,zB] at hb ⊢; obtain ⟨rfl,rfl,rfl⟩:=hb; simp
  | some v =>
   simp only at *
   cases h1:q2v v n with
   | none=>simp [h1] at hb
   | some k=>simp only [h1,zA,zB] at hb ⊢; obtain ⟨rfl,rfl,rfl⟩:=hb; simp [(q3j h1 (zF _)).2]
 | some w =>
  simp only at *
  cases h2:q2v w n with
  | none=>simp [h2] at hb
  | some k2 =>
   obtain ⟨e2,e3⟩:=q3j h2 hc
   simp only [h2,e2] at hb ⊢
   cases lo with
   | none=>simp only [zA,zB] at hb ⊢; obtain ⟨rfl,rfl,rfl⟩:=hb; simp [e3]
   | some v =>
    simp only at *
    cases h1:q2v v k2 with
    | none=>simp [h1] at hb
    | some k=>simp only [h1,zA,zB] at hb ⊢; obtain ⟨rfl,rfl,rfl⟩:=hb; simp [(q3j h1 (zF _)).2,e3]
theorem qih {vm:Value} (hb:q0y n n lo hi (some vm)=some (l,h,m)):q2v vm n=some m∧l≤h∧h≤m∧m≤n∧∀ c,m≤c→q0y n c lo hi (some vm)=some (l,h,m):=by
 unfold q0y at *
 simp only at *
 cases h0:q2v vm n with
 | none=>simp [h0] at hb
 | some k0 =>
  simp only [h0] at hb
  have e0:=(q3j h0 (zF _)).2
  have grow:∀ c,k0≤c→q2v vm c=some k0:=fun c hc=>by
   unfold q2v at *
   cases vm with
   | int k i =>
    simp only at *
    cases h1:inR i (n+1) with
    | false=>simp [h1] at h0
    | true =>
     simp only [h1,zC,zA] at h0
     obtain ⟨a,b⟩:=qeu h1
     have:inR i (c+1)=true:=by
      unfold inR
      cases i with
      | ofNat k=>simp at h0 ⊢; omega
      | negSucc k=>omega
     simp [this,h0]
   | _=>simp at h0
  cases hi with
  | none=>simp at hb
  | some w =>
   simp only at *
   cases h2:q2v w k0 with
   | none=>simp [h2] at hb
   | some k2 =>
    have e3:=(q3j h2 (zF _)).2
    simp only [h2] at hb
    cases lo with
    | none =>
     simp only [zA,zB] at hb
     obtain ⟨rfl,rfl,rfl⟩:=hb
     exact ⟨rfl,by omega,e3,e0,fun c hc=>by simp [grow c hc,h2]⟩
    | some v =>
     simp only at *
     cases h1:q2v v k2 with
     | none=>simp [h1] at hb
     | some k =>
      simp only [h1,zA,zB] at hb
      obtain ⟨rfl,rfl,rfl⟩:=hb
      exact ⟨rfl,(q3j h1 (zF _)).2,e3,e0,fun c hc=>by simp [grow c hc,h2,h1]⟩
variable {mx:Option Value}
theorem z1l (hb:q0y n c lo hi mx=some (l,h,m)):l≤h∧m≤c:=by
 unfold q0y at hb
 cases mx with
 | none =>
  simp only at hb
  cases hi with
  | none =>
   simp only at hb
   cases lo with
   | none=>simp only [zA,zB] at hb; omega
   | some v =>
    simp only at hb
    cases h1:q2v v n with
    | none=>simp [h1] at hb
    | some k=>simp only [h1,zA,zB] at hb; have:=(q3j h1 (zF _)).2; omega
  | some w =>
   simp only at hb
   cases h2:q2v w c with
   | none=>simp [h2] at hb
   | some k2 =>
    simp only [h2] at hb
    cases lo with
    | none=>simp only [zA,zB] at hb; omega
    | some v =>
     simp only at hb
     cases h1:q2v v k2 with
     | none=>simp [h1] at hb
     | some k=>simp only [h1,zA,zB] at hb; have:=(q3j h1 (zF _)).2; omega
 | some vm =>
  simp only at hb
  cases h0:q2v vm c with
  | none=>simp [h0] at hb
  | some k0 =>
   have e0:=(q3j h0 (zF _)).2
   simp only [h0] at hb
   cases hi with
   | none=>simp at hb
   | some w =>
    simp only at hb
    cases h2:q2v w k0 with
    | none=>simp [h2] at hb
    | some k2 =>
     simp only [h2] at hb
     cases lo with
     | none=>simp only [zA,zB] at hb; omega
     | some v =>
      simp only at hb
      cases h1:q2v v k2 with
      | none=>simp [h1] at hb
      | some k=>simp only [h1,zA,zB] at hb; have:=(q3j h1 (zF _)).2; omega
theorem z1m (hb:q0y n c lo hi mx=some (l,h,m)) (hn:n≤c):h≤m:=by
 unfold q0y at hb
 cases mx with
 | none =>
  simp only at hb
  cases hi with
  | none =>
   simp only at hb
   cases lo with
   | none=>simp only [zA,zB] at hb; omega
   | some v =>
    simp only at hb
    cases h1:q2v v n with
    | none=>simp [h1] at hb
    | some k=>simp only [h1,zA,zB] at hb; omega
  | some w =>
   simp only at hb
   cases h2:q2v w c with
   | none=>simp [h2] at hb
   | some k2 =>
    have:=(q3j h2 (zF _)).2
    simp only [h2] at hb
    cases lo with
    | none=>simp only [zA,zB] at hb; omega
    | some v =>
     simp only at hb
     cases h1:q2v v k2 with
     | none=>simp [h1] at hb
     | some k=>simp only [h1,zA,zB] at hb; omega
 | some vm =>
  simp only at hb
  cases h0:q2v vm c with
  | none=>simp [h0] at hb
  | some k0 =>
   simp only [h0] at hb
   cases hi with
   | none=>simp at hb
   | some w =>
    simp only at hb
    cases h2:q2v w k0 with
    | none=>simp [h2] at hb
    | some k2 =>
     have:=(q3j h2 (zF _)).2
     simp only [h2] at hb
     cases lo with
     | none=>simp only [zA,zB] at hb; omega
     | some v =>
      simp only at hb
      cases h1:q2v v k2 with
      | none=>simp [h1] at hb
      | some k=>simp only [h1,zA,zB] at hb; omega
theorem qlx {x:Cx} {sz:Nat}:∀ {l:List (List U)} {vs:List Value},qcw x sz l vs→∀ (i:Nat) (c:List U),l[i]? = some c→c.length=sz∧okL c=true∧q3z x c (vs.drop (i*sz))
 | [],vs,h,i,c,hc=>by simp at hc
 | d::l,vs,h,i,c,hc=>by
  simp only [qcw] at h
  cases i with
  | zero=>simp at hc; subst hc; exact ⟨h.1,h.2.1,by simpa using h.2.2.1⟩
  | succ i =>
   simp at hc
   have:=qlx h.2.2.2 i c hc
   rw [List.drop_drop] at this
   rw [Nat.succ_mul,Nat.add_comm]; exact this
theorem z03 {x:Cx} {sz:Nat}:∀ {l:List (List U)} {vs:List Value},(∀ (i:Nat) (c:List U),l[i]? = some c→c.length=sz∧okL c=true∧q3z x c (vs.drop (i*sz)))→qcw x sz l vs
 | [],vs,h=>by simp [qcw]
 | d::l,vs,h=>by
  simp only [qcw]
  have h0:=h 0 d rfl
  refine ⟨h0.1,h0.2.1,by simpa using h0.2.2,z03 fun i c hc=>?_⟩
  have:=h (i+1) c (by simpa using hc)
  rw [List.drop_drop]
  rw [Nat.succ_mul,Nat.add_comm] at this; exact this
theorem z1v {α:Type} (l:List α) (a h i:Nat):(qks l a h)[i]? = if a+i<h then l[a+i]? else none:=by
 unfold qks
 rw [List.getElem?_drop,List.getElem?_take]
variable {a:Nat}
theorem qum {α:Type} {l:List α} (hh:h≤l.length):(qks l a h).length=h - a:=by simp [qks]; omega
variable {x:Cx}
variable {sz:Nat}
theorem z3e {l:List (List U)} {vs:List Value} (hr:qcw x sz l vs):qcw x sz (qks l a h) (vs.drop (a*sz)):=by
 refine z03 fun i c hc=>?_
 rw [z1v] at hc
 split at hc
 ·have:=qlx hr _ _ hc
  rw [List.drop_drop]
  rw [Nat.add_mul] at this; exact this
 ·cases hc
theorem z3v {l:List (List U)} (h:(l.all fun c=>Nat.beq c.length sz)=true):∀ c∈l,c.length=sz:=fun c hc=>by
 have:=List.all_eq_true.1 h c hc
 simpa [beq_eq] using this
theorem z04 {sz':Nat} {l:List (List U)} {vs:List Value} (hr:qcw x sz l vs) (hne:l≠[]) (h:(l.all fun c=>Nat.beq c.length sz')=true):sz=sz':=by
 cases l with
 | nil=>exact absurd rfl hne
 | cons c l=>rw [← (qlx hr 0 c rfl).1]; exact z3v h c (by simp)
theorem qly {x:Cx} {sz:Nat}:∀ {l:List (List U)} {vs:List Value},qcw x sz l vs→l.length*sz≤vs.length
 | [],vs,h=>by simp
 | d::l,vs,h=>by
  simp only [qcw] at h
  have h1:=q3z.len h.2.2.1
  have h2:=qly h.2.2.2
  rw [List.length_drop] at h2
  rw [zO,Nat.succ_mul]
  omega
theorem qsi {x:Cx} {sz:Nat}:∀ {l:List (List U)} {vs:List Value},qcw x sz l vs→q1o x l.flatten (vs.take (l.length*sz))∧okL l.flatten=true
 | [],vs,h=>by simpa [okL] using q1o.nil x
 | d::l,vs,h=>by
  have hlen:=qly h
  simp only [qcw] at h
  obtain ⟨h1,h2,h3,h4⟩:=h
  obtain ⟨g1,g2⟩:=qsi h4
  refine ⟨?_,by simpa using q66 h2 g2⟩
  have e:vs.take ((d::l).length*sz)=vs.take d.length++(vs.drop sz).take (l.length*sz):=by
   rw [zO,Nat.succ_mul,Nat.add_comm,List.take_add,h1]
  rw [e,List.flatten_cons]
  exact h3.takeE.append g1
def qua (T:Tb) (x:Cx) (t:TypeId) (u:U) (va:Value) (lo hi mx:Option Value):Prop :=
 (∃ v,q58 T t va lo hi mx=some v∧Rel x u v)∨(q58 T t va lo hi mx=none∧∃ v,qfi T x.s t va lo hi mx=some v∧Rel x u v) ∨
 (q58 T t va lo hi mx=none∧qfi T x.s t va lo hi mx=none∧∃ v,qoy T x.s t va lo hi mx=some (v,(bump x).s)∧Rel (bump x) u v)
theorem q6n {b:Nat} (h:a<b):Nat.blt a b=true:=Nat.ble_eq_true_of_le h
theorem qdu {b:Nat} (h:¬ a<b):Nat.blt a b=false:=by
 cases hb:Nat.blt a b with
 | false=>rfl
 | true=>exact absurd (q98 hb) h
variable {T:Tb}
variable {t:TypeId}
variable {e:TypeId}
variable {i:Nat}
variable {off:Nat}
variable {row:List Value}
theorem qng (hd:T.und t=some (.slice e)) (hs:q0x T e=some sz) (hsz:0<sz) {d:Nat} (hn:0<n) (hoff:off=d*sz) (hcap:qe4 x.s i sz=some row)
  (hlen:off+n*sz≤row.length) (hb:q0y n n lo hi none=some (l,h,m)) :
  let va:=Value.slice (some ⟨i,off,none⟩) n (q05+d)
  q58 T t va lo hi none=none∧(if l<h∨l=0 then qfi T x.s t va lo hi none=some (.slice (some ⟨i,(d+l)*sz,none⟩) (h - l) (q05+(d+l)))
   else qfi T x.s t va lo hi none=none∧qoy T x.s t va lo hi none=some (.slice (some ⟨x.s.nx,0,none⟩) 0 q05,(bump x).s)):=by
 have hc:Nat.blt (q05+d) q05=false:=qdu (by omega)
 obtain ⟨n',rfl⟩:∃ q,n=q+1:=⟨n - 1,by omega⟩
 have hcd:capD (q05+d)=d:=by simp [capD]
 have hbig:n'+1≤(row.length - off) / sz:=by
  rw [Nat.le_div_iff_mul_le hsz]; omega
 obtain ⟨b1,b2,b3,_⟩:=qdk hb hbig
 have hble:Nat.ble (off+h*sz) row.length=true:=Nat.ble_eq_true_of_le (by
  have:h*sz≤(n'+1)*sz:=Nat.mul_le_mul_right _ b3
  omega)
 refine ⟨by simp [q58,hd,hc,emptyS],?_⟩
 have hbeq:Nat.beq off (d*sz)=true:=by simp [hoff]
 have hpos:Nat.blt 0 sz=true:=q6n hsz
 cases l with
 | zero =>
  simp only [or_true,if_true]
  simp only [qfi,hd,hc,zD,hs,hcap,hcd,hbeq,zC,hpos,b1,hble]
  simp [hoff]
 | succ l =>
  by_cases hlt:l+1<h
  ·simp only [hlt,true_or,if_true]
   simp only [qfi,hd,hc,zD,hs,hcap,hcd,hbeq,zC,hpos,b1,hble,q6n hlt]
   simp [hoff,Nat.add_mul,Nat.add_assoc]
  ·have:¬ (l+1<h∨l+1=0):=by omega
   simp only [this,if_false]
   simp only [qfi,qoy,hd,hc,zD,hs,hcap,hcd,hbeq,zC,hpos,b1,hble,qdu hlt]
   simp [bump]
theorem qqe (hd:T.und t=some (.slice e)) (hs:q0x T e=some sz) (hsz:0<sz) {d:Nat} (hn:0<n) (hoff:off=d*sz) (hcap:qe4 x.s i sz=some row)
  (hlen:off+n*sz≤row.length) {vm:Value} (hb:q0y n n lo hi (some vm)=some (l,h,m)) (hm:m<q05) :
  let va:=Value.slice (some ⟨i,off,none⟩) n (q05+d)
  q58 T t va lo hi (some vm)=none∧qfi T x.s t va lo hi (some vm)=some (.slice (some (cond (Nat.beq m l) ⟨i,off,none⟩ ⟨i,off+l*sz,none⟩)) (h - l) (m - l)):=by
 have hc:Nat.blt (q05+d) q05=false:=qdu (by omega)
 obtain ⟨n',rfl⟩:∃ q,n=q+1:=⟨n - 1,by omega⟩
 have hcd:capD (q05+d)=d:=by simp [capD]
 have hbig:n'+1≤(row.length - off) / sz:=by
  rw [Nat.le_div_iff_mul_le hsz]; omega
 obtain ⟨b0,b1,b2,b3,b4⟩:=qih hb
 have hb0:=(q3j b0 hbig).1
 have hble:Nat.ble (off+m*sz) row.length=true:=Nat.ble_eq_true_of_le (by
  have:m*sz≤(n'+1)*sz:=Nat.mul_le_mul_right _ b3
  omega)
 refine ⟨by simp [q58,hd,hc,emptyS],?_⟩
 have hbeq:Nat.beq off (d*sz)=true:=by simp [hoff]
 have hpos:Nat.blt 0 sz=true:=q6n hsz
 simp only [qfi,hd,hc,zD,hs,hcap,hcd,hbeq,zC,hpos,hb0,hble,b4 m (zF _),q6n hm]
theorem qwj {s:S} {l:List Value} (h:lk s.h i=some (.inl (l,e,sz+2))):qe4 s i sz=some l:=by simp [qe4,h]
theorem qoh {s:S} {l:List Value} (h:lk s.h i=some (.inl (l,sz+1,1))):qe4 s i sz=some l:=by simp [qe4,h]
variable {k:Nat}
variable {off':Nat}
theorem z4y {n' c':Nat} (hr:Rel x (.sl k off n c) v) (hi:x.ρ k=some i) (hc:c'<q05) (hn:n'≤c'):Rel x (.sl k off' n' c') (.slice (some ⟨i,off',none⟩) n' c'):=by
 simp only [Rel] at *
 exact ⟨rfl,hr.2.1,fun b hb=>⟨(hr.2.2 b hb).1,fun _=>⟨i,hi,rfl,hc,hn⟩⟩⟩
theorem z05 {st:Nat} (hr:Rel x (.ptr k st off) v) (hi:x.ρ k=some i):Rel x (.ptr k st off') (.pointer (some ⟨i,off',none⟩)):=by
 simp only [Rel] at *
 exact ⟨rfl,hr.2.1,fun b hb=>⟨(hr.2.2 b hb).1,fun _=>⟨i,hi,rfl⟩⟩⟩
theorem qsj {st n':Nat} {l:List U} {v':Value} (hr:Rel x (.vl k st off n) v) (hb:gt x.σ.h k=some (.vec l e sz st)) (h1:v'.oneCell'=true) (h:z0y off' n' v' sz (x.ρ k)):Rel x (.vl k st off' n') v':=by
 simp only [Rel] at *
 refine ⟨h1,hr.2.1,fun b hb'=>⟨(hr.2.2 b hb').1,fun _=>?_⟩⟩
 rw [hb] at hb'; cases hb'
 exact ⟨l,e,sz,rfl,h⟩
theorem cap0:Nat.blt 0 q05=true:=q6n (by simp [q05])
theorem qep (hb:q0y 0 0 lo hi mx=some (l,h,m)):l=0∧h=0∧m=0:=by
 cases mx with
 | none=>obtain ⟨_,b2,b3,b4⟩:=qdk hb (zF _); omega
 | some vm=>obtain ⟨_,b2,b3,b4,_⟩:=qih hb; omega
theorem qi2 {t:Bool} {l:List (List U)} (hg:lk x.s.h i=some (.inl (row,e,1))) (hr:qcw x sz l (row.drop off)) (hh:h≤l.length) (hoff:a<h→off'=off+a*sz)
  (ht:t=true→c=h - a∧c<q05) (hc:a<h→(c<q05∧h - a≤c)∨(q05≤c∧e=sz+1∧0<sz∧off'=capD c*sz)):Rel x (.isl t (qks l a h)) (.slice (some ⟨i,off',none⟩) (h - a) c):=by
 have hlen:=qum (a:=a) hh
 simp only [Rel]
 refine .inr ⟨i,off',c,by rw [hlen],by rw [hlen]; exact ht,?_⟩
 by_cases hlt:a<h
 ·have e1:row.drop off'=(row.drop off).drop (a*sz):=by rw [List.drop_drop,hoff hlt]
  have hcut:=z3e (a:=a) (h:=h) hr
  rw [← e1] at hcut
  refine .inr ⟨row,e,sz,hg,hcut,?_⟩
  rw [hlen]
  rcases hc hlt with hc | ⟨c1,c2,c3,c4⟩
  ·exact .inl hc
  ·refine .inr ⟨c1,c2,c3,c4,?_⟩
   have:=qly hcut
   rw [hlen,List.length_drop] at this
   have hpos:0<(h - a)*sz:=Nat.mul_pos (by omega) c3
   omega
 ·exact .inl (List.eq_nil_of_length_eq_zero (by rw [hlen]; omega))
theorem z0g (hd:T.und t=some (.slice e)) (hs:q0x T e=some sz) {tt:Bool} {l:List (List U)} {u:U} {va:Value} (hall:(l.all fun c=>Nat.beq c.length sz)=true)
  (hb:q0y l.length l.length lo hi mx=some (a,h,m)) (hu:match mx with
   | some _=>m<q05∧u = .isl (Nat.beq m h) (qks l a h)
   | none=>u = .isl (cond tt (Nat.beq h l.length) false) (qks l a h)) (ha:Rel x (.isl tt l) va):qua T x t u va lo hi mx:=by
 simp only [Rel] at ha
 rcases ha with ⟨rfl,rfl | ⟨r,rfl⟩⟩ | ⟨i,off,c,rfl,ht,hrow⟩
 ·obtain ⟨rfl,rfl,rfl⟩:=qep hb
  refine .inl ⟨.slice none 0 0,by simp only [zS] at hb; simp [q58,hd,hb,hs,cap0],?_⟩
  cases mx with
  | none=>simp only at hu; subst hu; simp [Rel,qks]
  | some vm=>simp only at hu; rw [hu.2]; simp [Rel,qks]
 ·obtain ⟨rfl,rfl,rfl⟩:=qep hb
  refine .inl ⟨.chan (some r),by simp only [zS] at hb; simp [q58,hd,hb,hs],?_⟩
  cases mx with
  | none=>simp only at hu; subst hu; simp [Rel,qks]
  | some vm=>simp only at hu; rw [hu.2]; simp [Rel,qks]
 ·by_cases hne:l=[]
  ·subst hne
   obtain ⟨rfl,rfl,rfl⟩:=qep hb
   simp only [zS] at hb ht
   have fin:∀ (t':Bool) (off' c':Nat),(t'=true→c'=0)→Rel x (.isl t' (qks [] 0 0)) (.slice (some ⟨i,off',none⟩) 0 c'):=fun t' off' c' h1=>by
    simp only [Rel]
    exact .inr ⟨i,off',c',by simp [qks],fun h=>by rw [h1 h]; simp [qks,q05],.inl (by simp [qks])⟩
   by_cases hc:c<q05
   ·cases mx with
    | none =>
     simp only [zS] at hu
     subst hu
     obtain ⟨b1,_⟩:=qdk hb (Nat.zero_le c)
     have ht':(cond tt (Nat.beq 0 0) false=true)→c=0:=fun h=>(ht (by cases tt<;>simp_all)).1
     cases hml:Nat.beq c 0 with
     | true=>exact .inl ⟨_,by simp only [zS,q58,hd,q6n hc,zC,b1,hs,hml]<;>rfl,fin _ off c ht'⟩
     | false=>exact .inl ⟨_,by simp only [zS,q58,hd,q6n hc,zC,zD,b1,hs,hml]<;>rfl,fin _ _ c ht'⟩
    | some vm =>
     simp only at hu
     obtain ⟨_,_,_,_,b4⟩:=qih hb
     rw [hu.2]
     exact .inl ⟨_,by simp only [zS,q58,hd,q6n hc,zC,b4 c (Nat.zero_le _),hs]<;>rfl,fin _ off 0 (fun _=>rfl)⟩
   ·cases mx with
    | none =>
     simp only [zS] at hu
     subst hu
     exact .inl ⟨_,by simp only [zS,q58,hd,qdu hc,zD,emptyS,hb,hs]<;>rfl,fin _ off c (fun h=>absurd (ht (by cases tt<;>simp_all)).2 hc)⟩
    | some vm =>
     simp only at hu
     rw [hu.2]
     exact .inl ⟨_,by simp only [zS,q58,hd,qdu hc,zD,emptyS,hb,hs]<;>rfl,fin _ off 0 (fun _=>rfl)⟩
  ·rcases hrow with hrow | ⟨row,e',sz',g1,g2,g3⟩
   ·exact absurd hrow hne
   ·have hsz:=z04 g2 hne hall
    subst hsz
    have hpos:0<l.length:=by cases l<;>simp_all
    rcases g3 with ⟨hc,hlc⟩ | ⟨hc,he,hz,hoff,hlen⟩
    ·cases mx with
     | none =>
      simp only at hu
      subst hu
      obtain ⟨b1,b2,b3,b4⟩:=qdk hb hlc
      have ht':(cond tt (Nat.beq h l.length) false=true)→c - a=h - a∧c - a<q05:=fun hh=>by
       cases tt with
       | false=>simp at hh
       | true=>simp at hh; have:=(ht rfl).1; omega
      cases hml:Nat.beq c a with
      | true =>
       have:c=a:=by simpa [beq_eq] using hml
       exact .inl ⟨_,by simp only [q58,hd,q6n hc,zC,b1,hs,hml]<;>rfl,qi2 g1 g2 b3 (fun h1=>by omega) ht' (fun h1=>by omega)⟩
      | false=>exact .inl ⟨_,by simp only [q58,hd,q6n hc,zC,zD,b1,hs,hml]<;>rfl,qi2 g1 g2 b3 (fun h1=>rfl) ht' (fun h1=>.inl (by omega))⟩
     | some vm =>
      simp only at hu
      rw [hu.2]
      obtain ⟨b0,b1,b2,b3,b4⟩:=qih hb
      have ht':Nat.beq m h=true→m - a=h - a∧m - a<q05:=fun hh=>by simp at hh; omega
      cases hml:Nat.beq m a with
      | true =>
       have:m=a:=by simpa [beq_eq] using hml
       exact .inl ⟨_,by simp only [q58,hd,q6n hc,zC,b4 c (by omega),hs,hml]<;>rfl,qi2 g1 g2 (by omega) (fun h1=>by omega) ht' (fun h1=>by omega)⟩
      | false=>exact .inl ⟨_,by simp only [q58,hd,q6n hc,zC,zD,b4 c (by omega),hs,hml]<;>rfl,qi2 g1 g2 (by omega) (fun h1=>rfl) ht' (fun h1=>.inl (by omega))⟩
    ·obtain ⟨d,rfl⟩:∃ d,c=q05+d:=⟨c - q05,by omega⟩
     have hcd:capD (q05+d)=d:=by simp [capD]
     rw [hcd] at hoff
     subst he
     have htt:tt=false:=by
      cases tt with
      | false=>rfl
      | true=>exact absurd (ht rfl).2 (by omega)
     subst htt
     cases mx with
     | none =>
      simp only [zD] at hu
      subst hu
      obtain ⟨b1,b2,b3,b4⟩:=qdk hb (zF _)
      obtain ⟨s1,s2⟩:=qng hd hs hz (i:=i) (n:=l.length) (d:=d) hpos hoff (qoh g1) hlen hb
      split at s2
      ·exact .inr (.inl ⟨s1,_,s2,qi2 g1 g2 b3 (fun _=>by rw [hoff,Nat.add_mul]) (fun h=>by cases h) (fun _=>.inr ⟨by omega,rfl,hz,by simp [capD]⟩)⟩)
      ·refine .inr (.inr ⟨s1,s2.1,_,s2.2,?_⟩)
       have hn:(qks l a h)=[]:=List.eq_nil_of_length_eq_zero (by rw [qum b3]; omega)
       rw [hn]
       simp only [Rel]
       exact .inr ⟨x.s.nx,0,q05,rfl,(fun h=>by cases h),.inl trivial⟩
     | some vm =>
      simp only at hu
      rw [hu.2]
      obtain ⟨b0,b1,b2,b3,b4⟩:=qih hb
      obtain ⟨s1,s2⟩:=qqe hd hs hz (i:=i) (n:=l.length) (d:=d) hpos hoff (qoh g1) hlen hb hu.1
      have ht':Nat.beq m h=true→m - a=h - a∧m - a<q05:=fun hh=>by simp at hh; omega
      cases hml:Nat.beq m a with
      | true =>
       have:m=a:=by simpa [beq_eq] using hml
       rw [hml,zC] at s2
       exact .inr (.inl ⟨s1,_,s2,qi2 g1 g2 (by omega) (fun h1=>by omega) ht' (fun h1=>by omega)⟩)
      | false =>
       rw [hml,zD] at s2
       exact .inr (.inl ⟨s1,_,s2,qi2 g1 g2 (by omega) (fun h1=>rfl) ht' (fun h1=>.inl (by omega))⟩)
theorem z0h (hx:qfj x) {a u:U} {va:Value} (h:qlb T x.σ t a lo hi mx=some u) (ha:Rel x a va):qua T x t u va lo hi mx:=by
 unfold qlb at h
 cases hd:T.und t with
 | none=>simp [hd] at h
 | some d =>
 cases d with
 | string =>
  simp only [hd] at h
  cases a with
  | str s =>
   cases mx with
   | some _=>simp at h
   | none =>
    simp only at h
    cases hb:q0y s.length s.length lo hi none with
    | none=>simp [hb] at h
    | some q =>
     obtain ⟨l,hh,m⟩:=q
     simp only [hb,zA] at h
     subst h
     simp only [Rel] at ha
     subst ha
     exact .inl ⟨.string ⟨((s.take hh).drop l).toArray⟩,by simp [q58,hd,hb],by simp [Rel,qks]⟩
  | _=>simp at h
 | slice e =>
  simp only [hd] at h
  cases hs:q0x T e with
  | none=>simp [hs] at h
  | some sz =>
   simp only [hs] at h
   cases a with
   | nils =>
    simp only at h
    simp only [Rel] at ha
    subst ha
    cases hb:q0y 0 0 lo hi mx with
    | none=>simp [hb] at h
    | some q =>
     obtain ⟨l,hh,m⟩:=q
     simp only [hb,zA] at h
     subst h
     obtain ⟨rfl,rfl,rfl⟩:=qep hb
     exact .inl ⟨.slice none 0 0,by simp [q58,hd,hb,hs,cap0],by simp [Rel]⟩
   | sl k off n c =>
    simp only at h
    cases hl:live x.σ k 0 with
    | false=>simp [hl] at h
    | true =>
     simp only [hl,zC] at h
     cases hb:q0y n c lo hi mx with
     | none=>simp [hb] at h
     | some q =>
      obtain ⟨l,hh,m⟩:=q
      simp only [hb,zA] at h
      subst h
      obtain ⟨i,hi',rfl,hc,hnc⟩:=qex hl ha
      obtain ⟨_,hmc⟩:=z1l hb
      have hhm:=z1m hb hnc
      cases hml:Nat.beq m l with
      | true=>exact .inl ⟨_,by simp only [q58,hd,q6n hc,zC,hb,hs,hml]<;>rfl,z4y ha hi' (by omega) (by omega)⟩
      | false=>exact .inl ⟨_,by simp only [q58,hd,q6n hc,zC,zD,hb,hs,hml]<;>rfl,z4y ha hi' (by omega) (by omega)⟩
   | vl k st off n =>
    simp only at h
    cases hv:qhc x.σ k st with
    | none=>simp [hv] at h
    | some q =>
     obtain ⟨r,e',sz'⟩:=q
     obtain ⟨hg,hl⟩:=qh2 hv
     simp only [hv,beq_eq] at h
     by_cases hz:sz'=sz
     ·subst hz
      simp only [yC,zC] at h
      cases mx with
      | some _=>simp at h
      | none =>
       simp only at h
       cases hb:q0y n n lo hi none with
       | none=>simp [hb] at h
       | some q =>
        obtain ⟨l,hh,m⟩:=q
        simp only [hb] at h
        split at h
        ·rename_i hlen
         simp only [zA] at h
         subst h
         obtain ⟨l0,e0,sz0,hg',hvl⟩:=qhx hl ha
         have hgg:(some (B.vec r e' sz' st))=some (.vec l0 e0 sz0 st):=hg.symm.trans hg'
         cases hgg
         obtain ⟨_,k1,k2,h3⟩:=hx.ok k _ hg
         have zero:∀ o c,n=0→va = .slice o 0 c→(∀ a,o=some a→a.spot=none)→(o=none→c=0)→∃ o' c',q58 T t va lo hi none=some (.slice o' 0 c')∧(c=0→c'=0)∧(∀ a,o'=some a→a.spot=none)∧(o=none→o'=none)∧(∀ a,o=some a→∃ a',o'=some a')∧(¬ c<q05→o'=o∧c'=c):=by
          rintro o c rfl rfl hsp ho
          obtain ⟨b1,b2,b3,b4⟩:=qdk hb (Nat.zero_le c)
          obtain rfl:hh=0:=by omega
          obtain rfl:l=0:=by omega
          by_cases hc:c<q05
          ·cases o with
           | none=>exact ⟨none,c,by simp [q58,hd,q6n hc,b1,hs],by simp,by simp,by simp,by simp,fun hn=>absurd hc hn⟩
           | some a =>
            cases hml:Nat.beq c 0 with
            | true=>exact ⟨some a,c,by simp only [q58,hd,q6n hc,b1,hs,hml,zC,Nat.sub_zero],by simp,by simpa using hsp a rfl,by simp,by simp,fun hn=>absurd hc hn⟩
            | false=>exact ⟨some ⟨a.block,a.off+0*sz',none⟩,c,by simp only [q58,hd,q6n hc,b1,hs,hml,zC,zD,Nat.sub_zero],by simp,by simp,by simp,by simp,fun hn=>absurd hc hn⟩
          ·cases o with
           | none=>exact absurd (by rw [ho rfl]; simp [q05]) hc
           | some a =>
            obtain rfl:m=0:=by omega
            exact ⟨some a,c,by simp only [q58,hd,qdu hc,zD,emptyS,hb,hs],by simp,by simpa using hsp a rfl,by simp,by simp,fun _=>⟨rfl,rfl⟩⟩
         have hl0:n=0→l=0∧hh=0:=fun hn0=>by
          obtain ⟨b1,b2,b3,b4⟩:=qdk hb (zF _); omega
         rcases h3 with ⟨hr0,hρ⟩ | ⟨i,l',e1,e2,e3⟩
         ·rw [hρ] at hvl
          obtain ⟨rfl,rfl,o,rfl,hsp⟩:=hvl
          obtain ⟨rfl,rfl⟩:=hl0 rfl
          obtain ⟨o',c',q1,q2,q3,q4,q5,q6⟩:=zero o 0 rfl rfl hsp (fun _=>rfl)
          rw [q2 rfl] at q1
          exact .inl ⟨_,q1,qsj ha hg rfl (by rw [hρ]; exact ⟨rfl,rfl,o',rfl,q3⟩)⟩
         ·rw [e1] at hvl
          rcases hvl with ⟨h0,rfl,a,c,rfl,hsp⟩ | rfl
          ·obtain ⟨rfl,rfl⟩:=hl0 rfl
           obtain ⟨o',c',q1,q2,q3,q4,q5,q6⟩:=zero (some a) c rfl rfl (by simpa using hsp) (by simp)
           obtain ⟨a',rfl⟩:=q5 a rfl
           exact .inl ⟨_,q1,qsj ha hg rfl (by rw [e1]; exact .inl ⟨by omega,rfl,a',c',rfl,q3 a' rfl⟩)⟩
          ·by_cases hn:n=0
           ·subst hn
            obtain ⟨rfl,rfl⟩:=hl0 rfl
            obtain ⟨o',c',q1,q2,q3,q4,q5,q6⟩:=zero (some ⟨i,off*sz',none⟩) (q05+off) rfl rfl (by simp) (by simp)
            obtain ⟨rfl,rfl⟩:=q6 (by omega)
            exact .inl ⟨_,q1,qsj ha hg rfl (by rw [e1]; exact .inr rfl)⟩
           ·have:=qng hd hs k2 (i:=i) (n:=n) (d:=off) (by omega) rfl (qwj e2) (by rw [← e3.2,← Nat.add_mul]; exact hlen) hb
            obtain ⟨s1,s2⟩:=this
            split at s2
            ·exact .inr (.inl ⟨s1,_,s2,qsj ha hg rfl (by rw [e1]; exact .inr rfl)⟩)
            ·rename_i hlt
             obtain ⟨b1,b2,b3,b4⟩:=qdk hb (zF _)
             refine .inr (.inr ⟨s1,s2.1,_,s2.2,?_⟩)
             have hb':=qp8 ha
             have hz0:hh - l=0:=by omega
             rw [hz0]
             exact qsj (x:=bump x) hb' hg rfl (by show z0y _ _ _ _ (x.ρ k); rw [e1]; exact .inl ⟨by omega,rfl,_,_,rfl,rfl⟩)
        ·cases h
     ·simp [hz] at h
   | isl tt l =>
    simp only at h
    split at h
    ·rename_i hall
     cases hb:q0y l.length l.length lo hi mx with
     | none=>simp [hb] at h
     | some q =>
      obtain ⟨a,hh,m⟩:=q
      simp only [hb] at h
      refine z0g hd hs (tt:=tt) hall hb ?_ ha
      cases mx with
      | none=>simp only [zA] at h ⊢; exact h.symm
      | some vm =>
       simp only at h ⊢
       split at h
       ·rename_i hm; simp only [zA] at h; exact ⟨hm,h.symm⟩
       ·cases h
    ·cases h
   | _=>simp at h
 | _=>simp [hd] at h
variable {T:Tb}
variable {x:Cx}
variable {a:U}
variable {u:U}
variable {va:Value}
theorem qtg {st:TypeId} {f:Nat} (h:qil T x.σ st a f=some u) (ha:Rel x a va):∃ v,qim T st va f=some v∧Rel x u v:=by
 unfold qil at h
 unfold qim
 cases hd:T.und st with
 | none=>simp [hd] at h
 | some d =>
 cases d with
 | struct fs =>
  simp only [hd] at h ⊢
  cases hf:nth fs.toList f with
  | none=>simp [hf] at h
  | some fd =>
   simp only [hf] at h ⊢
   cases hs:q0x T fd.type with
   | none=>simp [hs] at h
   | some n =>
    cases n with
    | zero=>simp [hs] at h
    | succ n =>
     simp only [hs] at h
     cases a with
     | ptr k s off =>
      simp only at h
      cases hl:live x.σ k s with
      | false=>simp [hl] at h
      | true =>
       simp only [hl,zC,zA] at h
       subst h
       obtain ⟨i,hi,rfl⟩:=qew hl ha
       exact ⟨_,rfl,z05 ha hi⟩
     | iptr l =>
      simp only [zA] at h
      subst h
      simp only [Rel] at ha
      obtain ⟨i,off,row,e,rfl,h2,h3,h4⟩:=ha
      refine ⟨_,rfl,?_⟩
      simp only [Rel]
      exact ⟨i,off+fd.offset,row,e,rfl,h2,by rw [← List.drop_drop]; exact h3.drop _,q8l h4 _⟩
     | _=>simp at h
 | _=>simp [hd] at h
theorem qyf {st:TypeId} {f:Nat} (h:qye T st a f=some u) (ha:Rel x a va):∃ v,qrg T st va f=some v∧Rel x u v:=by
 unfold qye at h
 unfold qrg
 cases hd:T.und st with
 | none=>simp [hd] at h
 | some d =>
 cases d with
 | struct fs =>
  simp only [hd] at h ⊢
  cases hf:nth fs.toList f with
  | none=>simp [hf] at h
  | some fd =>
   simp only [hf] at h ⊢
   cases a with
   | agg cs =>
    simp only [Rel] at ha
    obtain ⟨vs,rfl,h1,h2,h3⟩:=ha
    exact qvk h ⟨h1,h2⟩ h3
   | _=>simp at h
 | _=>simp [hd] at h
theorem qiu {i:Int} {n:Nat} (h:0≤i∧i<n):inR i n=true:=by
 unfold inR
 cases i with
 | ofNat k=>exact q6n (by have:=h.2; simp at this; exact this)
 | negSucc k=>have:=h.1; omega
variable {t:TypeId}
theorem qtl (hx:qfj x) {b:U} {vb:Value} (h:q8j T x.σ t a b=some u) (ha:Rel x a va) (hb:Rel x b vb):∃ v,qiv T t va vb=some v∧Rel x u v:=by
 unfold q8j at h
 cases b with
 | int k i =>
  simp only [Rel] at hb
  subst hb
  simp only [qiv]
  simp only at h
  cases hd:T.und t with
  | none=>simp [hd] at h
  | some d =>
  cases d with
  | slice e =>
   simp only [hd] at h
   cases hs:q0x T e with
   | none=>simp [hs] at h
   | some sz =>
    simp only [hs] at h
    cases a with
    | sl k off n c =>
     simp only at h
     cases hl:live x.σ k 0 with
     | false=>simp [hl] at h
     | true =>
      simp only [hl,zC] at h
      split at h
      ·rename_i hin
       simp only [zA] at h
       subst h
       obtain ⟨i',hi,rfl,_⟩:=qex hl ha
       refine ⟨_,by simp only [qiu hin,zC,hs]<;>rfl,?_⟩
       obtain ⟨b,q1,q2⟩:=qg6 hl
       simp only [Rel] at ha ⊢
       exact ⟨rfl,ha.2.1,fun b hb=>⟨Nat.zero_le _,fun _=>⟨i',hi,rfl⟩⟩⟩
      ·cases h
    | vl k st off n =>
     simp only at h
     cases hv:qhc x.σ k st with
     | none=>simp [hv] at h
     | some q =>
      obtain ⟨l,e',sz'⟩:=q
      obtain ⟨hg,hl⟩:=qh2 hv
      simp only [hv,beq_eq] at h
      by_cases hz:sz'=sz
      ·subst hz
       simp only [yC,zC] at h
       split at h
       ·rename_i hin
        simp only [zA] at h
        subst h
        obtain ⟨i',l0,e0,sz0,l',h1,h2,rfl,h4,h5,h6,h7⟩:=qqn hx hl ha (by omega)
        have:=hg.symm.trans h1
        cases this
        refine ⟨_,by simp only [qiu ⟨hin.1,hin.2.1⟩,zC,hs]<;>rfl,?_⟩
        simp only [Rel] at ha ⊢
        refine ⟨rfl,ha.2.1,fun b hb=>⟨(ha.2.2 b hb).1,fun _=>⟨i',h2,rfl⟩⟩⟩
       ·cases h
      ·simp [hz] at h
    | isl tt l =>
     simp only at h
     split at h
     ·rename_i hin
      cases hc:l[i.toNat]? with
      | none=>simp [hc] at h
      | some c =>
       simp only [hc,beq_eq] at h
       by_cases hz:c.length=sz
       ·simp only [hz,yC,zC,zA] at h
        subst h
        simp only [Rel] at ha
        rcases ha with ⟨rfl,_⟩ | ⟨i',off,c',rfl,ht,hrow⟩
        ·simp at hc
        ·rcases hrow with rfl | ⟨row,e',sz',g1,g2,g3⟩
         ·simp at hc
         ·obtain ⟨q1,q2,q3⟩:=qlx g2 _ _ hc
          refine ⟨_,by simp only [qiu hin,zC,hs]<;>rfl,?_⟩
          simp only [Rel]
          refine ⟨i',off+i.toNat*sz,row,e',rfl,g1,?_,q2⟩
          rw [List.drop_drop] at q3
          rw [← hz,q1]; exact q3
       ·simp [hz] at h
     ·cases h
    | _=>simp at h
  | array n e =>
   simp only [hd] at h
   cases hs:q0x T e with
   | none=>simp [hs] at h
   | some sz =>
    simp only [hs] at h
    cases a with
    | ptr k st off =>
     simp only at h
     cases hl:live x.σ k st with
     | false=>simp [hl] at h
     | true =>
      simp only [hl,zC] at h
      split at h
      ·rename_i hin
       simp only [zA] at h
       subst h
       obtain ⟨i',hi,rfl⟩:=qew hl ha
       exact ⟨_,by simp only [qiu hin,zC,hs]<;>rfl,z05 ha hi⟩
      ·cases h
    | iptr l =>
     simp only at h
     split at h
     ·rename_i hin
      simp only [zA] at h
      subst h
      simp only [Rel] at ha
      obtain ⟨i',off,row,e',rfl,h2,h3,h4⟩:=ha
      refine ⟨_,by simp only [qiu hin,zC,hs]<;>rfl,?_⟩
      simp only [Rel]
      exact ⟨i',_,row,e',rfl,h2,by rw [← List.drop_drop]; exact h3.drop _,q8l h4 _⟩
     ·cases h
    | _=>simp at h
  | _=>simp [hd] at h
 | _=>simp at h
theorem qyw {b:U} {vb:Value} (h:quw T t a b=some u) (ha:Rel x a va) (hb:Rel x b vb):∃ v,qmp T t va vb=some v∧Rel x u v:=by
 unfold quw at h
 cases a with
 | agg cs =>
  simp only at h
  cases b with
  | int k i =>
   simp only [Rel] at ha hb
   subst hb
   obtain ⟨vs,rfl,h1,h2,h3⟩:=ha
   simp only at h
   cases hd:T.und t with
   | none=>simp [hd] at h
   | some d =>
   cases d with
   | array n e =>
    simp only [hd] at h
    split at h
    ·rename_i hin
     cases hs:q0x T e with
     | none=>simp [hs] at h
     | some sz =>
      simp only [hs] at h
      obtain ⟨v,q1,q2⟩:=qvk h ⟨h1,h2⟩ h3
      exact ⟨v,by simp only [qmp,hd,qiu hin,zC,hs]; exact q1,q2⟩
    ·cases h
   | _=>simp [hd] at h
  | _=>simp at h
 | _=>exact g2_ok h ha hb
theorem z64 (hx:qfj x) (h:lenU T x.σ t a=some u) (ha:Rel x a va) :
  ∃ v,(lenX T t va=some v∨(lenX T t va=none∧∃ kt et r,T.und t=some (.map kt et)∧va = .map r∧(match r with
     | none=>some (Value.int .i64 0)
     | some r=>match lk x.s.h r with
      | some (.inr (es,_))=>some (.int .i64 es.length)
      | _=>none)=some v))∧Rel x u v:=by
 unfold lenU at h
 unfold lenX
 cases hd:T.und t with
 | none=>simp [hd] at h
 | some d =>
 cases d with
 | string =>
  simp only [hd] at h ⊢
  cases a with
  | str s=>simp only [zA] at h; subst h; simp only [Rel] at ha; subst ha; exact ⟨_,.inl rfl,by simp [Rel]⟩
  | _=>simp at h
 | slice e =>
  simp only [hd] at h ⊢
  cases a with
  | nils=>simp only [zA] at h; subst h; simp only [Rel] at ha; subst ha; exact ⟨_,.inl rfl,by simp [Rel]⟩
  | sl k off n c =>
   simp only at h
   cases hl:live x.σ k 0 with
   | false=>simp [hl] at h
   | true =>
    simp only [hl,zC,zA] at h
    subst h
    obtain ⟨i,_,rfl,_⟩:=qex hl ha
    exact ⟨_,.inl rfl,by simp [Rel]⟩
  | vl k st off n =>
   simp only at h
   cases hl:live x.σ k st with
   | false=>simp [hl] at h
   | true =>
    simp only [hl,zC,zA] at h
    subst h
    obtain ⟨_,_,_,_,hv⟩:=qhx hl ha
    obtain ⟨o,c,rfl⟩:=z0u hv
    exact ⟨_,.inl rfl,by simp [Rel]⟩
  | isl tt l =>
   simp only [zA] at h
   subst h
   simp only [Rel] at ha
   rcases ha with ⟨rfl,rfl | ⟨_,rfl⟩⟩ | ⟨_,_,_,rfl,_⟩<;>exact ⟨_,.inl rfl,by simp [Rel]⟩
  | _=>simp at h
 | array n e =>
  simp only [hd] at h ⊢
  cases a<;>simp at h<;>subst h<;>exact ⟨_,.inl rfl,by simp [Rel]⟩
 | map kt et =>
  simp only [hd] at h ⊢
  cases a with
  | nilm =>
   simp only [zA] at h; subst h; simp only [Rel] at ha; subst ha
   exact ⟨_,.inr ⟨trivial,kt,et,none,rfl,rfl,rfl⟩,by simp [Rel]⟩
  | map k =>
   simp only at h
   cases hg:gt x.σ.h k with
   | none=>simp [hg] at h
   | some b =>
    cases b with
    | map es cl =>
     simp only [hg,zA] at h
     subst h
     obtain ⟨i,hi,rfl⟩:=qlu (x:=x) (by simp [live,hg,B.st]) ha
     obtain ⟨_,i',es',e1,e2,e3⟩:=hx.ok k _ hg
     rw [hi] at e1; cases e1
     exact ⟨.int .i64 es'.length,.inr ⟨trivial,kt,et,some i,rfl,rfl,by simp [e2]⟩,by simp [Rel,e3.1]⟩
    | _=>simp [hg] at h
  | _=>simp at h
 | _=>simp [hd] at h
theorem z5m (hx:qfj x) (h:capU T x.σ t a=some u) (ha:Rel x a va):∃ v,capX T t va=some v∧Rel x u v:=by
 unfold capU at h
 unfold capX
 cases hd:T.und t with
 | none=>simp [hd] at h
 | some d =>
 cases d with
 | slice e =>
  simp only [hd] at h ⊢
  cases a with
  | nils=>simp only [zA] at h; subst h; simp only [Rel] at ha; subst ha; exact ⟨_,rfl,by simp [Rel]⟩
  | sl k off n c =>
   simp only at h
   cases hl:live x.σ k 0 with
   | false=>simp [hl] at h
   | true =>
    simp only [hl,zC,zA] at h
    subst h
    obtain ⟨i,_,rfl,hc,_⟩:=qex hl ha
    have hc':Nat.blt c q05=true:=Nat.ble_eq_true_of_le hc
    exact ⟨.int .i64 c,by simp only [hc',zC],by simp [Rel]⟩
  | _=>simp at h
 | _=>simp [hd] at h
theorem z39 (hx:qfj x) {tm:List U} {tv:List Value} (ht:q1o x tm tv) {op:Op} (h:q59 T x.σ tm op=some u):Sim T x tv op u x.σ:=by
 have one:∀ v,q57 T tv op=some v→Rel x u v→Sim T x tv op u x.σ:=fun v h1 h2=>Sim.same hx (z32 h1) h2
 unfold q59 at h
 cases op with
 | move o=>obtain ⟨v,h1,h2⟩:=q0v ht h; exact one v (by simp [q57,h1]) h2
 | assign o=>obtain ⟨v,h1,h2⟩:=q0v ht h; exact one v (by simp [q57,h1]) h2
 | pick c a b =>
  simp only at h
  cases hc:q0u tm c with
  | none=>simp [hc] at h
  | some cu =>
   obtain ⟨cv,c1,c2⟩:=q0v ht hc
   cases cu with
   | bool t =>
    simp only [Rel] at c2
    subst c2
    cases t with
    | true=>simp only [hc] at h; obtain ⟨v,h1,h2⟩:=q0v ht h; exact one v (by simp [q57,c1,h1]) h2
    | false=>simp only [hc] at h; obtain ⟨v,h1,h2⟩:=q0v ht h; exact one v (by simp [q57,c1,h1]) h2
   | _=>simp [hc] at h
 | build t ps =>
  simp only at h
  cases hp:qc0 tm ps.toList with
  | none=>simp [hp] at h
  | some qs =>
   simp only [hp] at h
   obtain ⟨vs,h1,h2⟩:=qmi ht hp
   obtain ⟨v,h3,h4⟩:=qxt h h2
   exact one v (by simp [q57,h1,h3]) h4
 | nilCheck o =>
  simp only at h
  cases ho:q0u tm o with
  | none=>simp [ho] at h
  | some a =>
   obtain ⟨va,a1,a2⟩:=q0v ht ho
   cases a with
   | ptr k st off =>
    simp only [ho] at h
    cases hl:live x.σ k st with
    | false=>simp [hl] at h
    | true =>
     simp only [hl,zC,zA] at h
     subst h
     obtain ⟨i,hi,rfl⟩:=qew hl a2
     exact one _ (by simp [q57,a1]) a2
   | iptr l =>
    simp only [ho,zA] at h
    subst h
    have a3:=a2
    simp only [Rel] at a2
    obtain ⟨i,off,row,e,rfl,_⟩:=a2
    exact one _ (by simp [q57,a1]) a3
   | fn f p q =>
    cases f with
    | func g =>
     simp only [ho,zA] at h
     subst h
     have a3:=a2
     simp only [Rel] at a2
     obtain ⟨i,off,rfl,_⟩:=a2
     exact one _ (by simp [q57,a1]) a3
    | _=>simp [ho] at h
   | _=>simp [ho] at h
 | binOp o t a b ty =>
  simp only at h
  cases ha:q0u tm a with
  | none=>simp [ha] at h
  | some au =>
   cases hb:q0u tm b with
   | none=>simp [ha,hb] at h
   | some bu =>
    simp only [ha,hb] at h
    obtain ⟨va,a1,a2⟩:=q0v ht ha
    obtain ⟨vb,b1,b2⟩:=q0v ht hb
    obtain ⟨v,h1,h2⟩:=z5h hx h a2 b2
    exact one v (by simp [q57,a1,b1,h1]) h2
 | unOp o t a =>
  simp only at h
  cases ha:q0u tm a with
  | none=>simp [ha] at h
  | some au =>
   simp only [ha] at h
   obtain ⟨va,a1,a2⟩:=q0v ht ha
   obtain ⟨v,h1,h2⟩:=g1_ok h a2
   exact one v (by simp [q57,a1,h1]) h2
 | convert s d a =>
  simp only at h
  cases ha:q0u tm a with
  | none=>simp [ha] at h
  | some au =>
   simp only [ha] at h
   obtain ⟨va,a1,a2⟩:=q0v ht ha
   obtain ⟨v,h1,h2⟩:=g1_ok h a2
   exact one v (by simp [q57,a1,h1]) h2
 | makeFunc f a b =>
  simp only at h
  cases ha:q4o tm a.toList with
  | none=>simp [ha] at h
  | some au =>
   cases hb:q4o tm b.toList with
   | none=>simp [ha,hb] at h
   | some bu =>
    simp only [ha,hb,zA] at h
    subst h
    obtain ⟨va,a1,a2⟩:=q9b ht ha
    obtain ⟨vb,b1,b2⟩:=q9b ht hb
    exact one _ (by simp [q57,a1,b1]<;>rfl) (by simp only [Rel]; exact ⟨va,vb,rfl,a2.1,a2.2,b2.1,b2.2⟩)
 | slice t a lo hi mx =>
  simp only at h
  cases ha:q0u tm a with
  | none=>simp [ha] at h
  | some au =>
   cases h1:qa3 tm lo with
   | none=>simp [ha,h1] at h
   | some lo' =>
    cases h2:qa3 tm hi with
    | none=>simp [ha,h1,h2] at h
    | some hi' =>
     cases h3:qa3 tm mx with
     | none=>simp [ha,h1,h2,h3] at h
     | some mx' =>
      simp only [ha,h1,h2,h3] at h
      obtain ⟨va,a1,a2⟩:=q0v ht ha
      have e1:=qmh ht h1
      have e2:=qmh ht h2
      have e3:=qmh ht h3
      rcases z0h hx h a2 with ⟨v,s1,s2⟩ | ⟨s0,v,s1,s2⟩ | ⟨s0,s1,v,s2,s3⟩
      ·exact one v (by simp [q57,a1,e1,e2,e3,s1]) s2
      ·exact Sim.same hx (qj4 (by simp [q57,a1,e1,e2,e3,s0]) (by simp [q97,a1,e1,e2,e3,s1])) s2
      ·exact ⟨v,bump x,qve (by simp [q57,a1,e1,e2,e3,s0]) (by simp [q97,a1,e1,e2,e3,s1]) (by simp [qnv,a1,e1,e2,e3,s2]),rfl,s3,z1o hx⟩
 | fieldAddr t a f =>
  simp only at h
  cases ha:q0u tm a with
  | none=>simp [ha] at h
  | some au =>
   simp only [ha] at h
   obtain ⟨va,a1,a2⟩:=q0v ht ha
   obtain ⟨v,h1,h2⟩:=qtg h a2
   exact one v (by simp [q57,a1,h1]) h2
 | field t a f =>
  simp only at h
  cases ha:q0u tm a with
  | none=>simp [ha] at h
  | some au =>
   simp only [ha] at h
   obtain ⟨va,a1,a2⟩:=q0v ht ha
   obtain ⟨v,h1,h2⟩:=qyf h a2
   exact one v (by simp [q57,a1,h1]) h2
 | indexAddr t a b =>
  simp only at h
  cases ha:q0u tm a with
  | none=>simp [ha] at h
  | some au =>
   cases hb:q0u tm b with
   | none=>simp [ha,hb] at h
   | some bu =>
    simp only [ha,hb] at h
    obtain ⟨va,a1,a2⟩:=q0v ht ha
    obtain ⟨vb,b1,b2⟩:=q0v ht hb
    obtain ⟨v,h1,h2⟩:=qtl hx h a2 b2
    exact one v (by simp [q57,a1,b1,h1]) h2
 | index t a b =>
  simp only at h
  cases ha:q0u tm a with
  | none=>simp [ha] at h
  | some au =>
   cases hb:q0u tm b with
   | none=>simp [ha,hb] at h
   | some bu =>
    simp only [ha,hb] at h
    obtain ⟨va,a1,a2⟩:=q0v ht ha
    obtain ⟨vb,b1,b2⟩:=q0v ht hb
    obtain ⟨v,h1,h2⟩:=qyw h a2 b2
    exact one v (by simp [q57,a1,b1,h1]) h2
 | extract a i =>
  simp only at h
  cases ha:q0u tm a with
  | none=>simp [ha] at h
  | some au =>
   simp only [ha] at h
   obtain ⟨va,a1,a2⟩:=q0v ht ha
   cases au with
   | tup l =>
    simp only [Rel] at a2
    obtain ⟨vs,rfl,q1,q2⟩:=a2
    simp only [qlq,q2o] at h
    obtain ⟨v,h1,h2⟩:=(show q1o x l vs from ⟨q1,q2⟩).get h
    exact one v (by simp [q57,a1,qgj,q2o,h1]) h2
   | _=>simp [qlq] at h
 | call c =>
  simp only at h
  obtain ⟨callee,args,ats⟩:=c
  cases callee with
  | builtin b =>
   cases b with
   | len =>
    simp only at h
    cases ha:q4o tm args.toList with
    | none=>simp [ha] at h
    | some us =>
     obtain ⟨vs,a1,a2⟩:=q9b ht ha
     cases hats:ats.toList with
     | nil=>simp [ha,hats] at h
     | cons t ts =>
      cases us with
      | nil=>simp [ha] at h
      | cons a l =>
       cases l with
       | cons _ _=>simp [ha] at h
       | nil =>
        obtain ⟨va,vs',rfl,r1,r2⟩:=a2.inv
        rw [r2.nil_inv] at a1
        simp only [ha,hats] at h
        obtain ⟨v,q1,q2⟩:=z64 hx h r1
        rcases q1 with q1 | ⟨q0,kt,et,r,hd,rfl,q1⟩
        ·exact one v (by simp [q57,a1,hats,q1]) q2
        ·refine Sim.same hx (qj4 (by simp [q57,a1,hats,q0]) ?_) q2
         cases r with
         | none=>simp only [q97,a1,hats,hd]; exact q1
         | some r=>simp only [q97,a1,hats,hd]; exact q1
   | cap =>
    simp only at h
    cases ha:q4o tm args.toList with
    | none=>simp [ha] at h
    | some us =>
     obtain ⟨vs,a1,a2⟩:=q9b ht ha
     cases hats:ats.toList with
     | nil=>simp [ha,hats] at h
     | cons t ts =>
      cases us with
      | nil=>simp [ha] at h
      | cons a l =>
       cases l with
       | cons _ _=>simp [ha] at h
       | nil =>
        obtain ⟨va,vs',rfl,r1,r2⟩:=a2.inv
        rw [r2.nil_inv] at a1
        simp only [ha,hats] at h
        obtain ⟨v,q1,q2⟩:=z5m hx h r1
        exact one v (by simp [q57,a1,hats,q1]) q2
   | max =>
    simp only at h
    cases ha:q4o tm args.toList with
    | none=>simp [ha] at h
    | some us =>
     obtain ⟨vs,a1,a2⟩:=q9b ht ha
     cases us with
     | nil=>simp [ha] at h
     | cons a l =>
      obtain ⟨va,vs',rfl,r1,r2⟩:=a2.inv
      simp only [ha] at h
      cases h1:toV a with
      | none=>simp [h1] at h
      | some v1 =>
       cases h2:toVL l with
       | none=>simp [h1,h2] at h
       | some v2 =>
        simp only [h1,h2] at h
        have e1:=(q81 a v1 h1 x va).1 r1
        have e2:=(q8s l v2 h2 x vs').1 r2
        subst e1; subst e2
        cases h3:qh3 qtq va vs' with
        | none=>simp [h3] at h
        | some r =>
         simp only [h3] at h
         exact one r (by simp [q57,a1,h3]) ((qj2 r u h).2 x)
   | min =>
    simp only at h
    cases ha:q4o tm args.toList with
    | none=>simp [ha] at h
    | some us =>
     obtain ⟨vs,a1,a2⟩:=q9b ht ha
     cases us with
     | nil=>simp [ha] at h
     | cons a l =>
      obtain ⟨va,vs',rfl,r1,r2⟩:=a2.inv
      simp only [ha] at h
      cases h1:toV a with
      | none=>simp [h1] at h
      | some v1 =>
       cases h2:toVL l with
       | none=>simp [h1,h2] at h
       | some v2 =>
        simp only [h1,h2] at h
        have e1:=(q81 a v1 h1 x va).1 r1
        have e2:=(q8s l v2 h2 x vs').1 r2
        subst e1; subst e2
        cases h3:qh3 qrz va vs' with
        | none=>simp [h3] at h
        | some r =>
         simp only [h3] at h
         exact one r (by simp [q57,a1,h3]) ((qj2 r u h).2 x)
   | _=>simp at h
  | _=>simp at h
 | _=>simp at h
theorem qio {T:Tb} {x:Cx} {kt:TypeId} {k:Value}:∀ {es:List ME} {vs:List MapEntry} (i:Nat) {r:Option (Nat×U)},qns x es vs→qhr T kt k es i=some r →
  (r=none∧qbv T kt k vs i=some none)∨∃ j u v,r=some (j,u)∧qbv T kt k vs i=some (some (j,v))∧Rel x u v∧i≤j∧∃ e e',es[j - i]? = some e∧e.val=u∧vs[j - i]? = some e'∧Rel x e.key e'.key∧e'.born=e.born∧e'.val=v
 | [],vs,i,r,hm,h=>by
  simp only [qhr,zA] at h
  subst h
  have:vs=[]:=by have:=hm.1; simpa using this.symm
  subst this
  exact .inl ⟨rfl,rfl⟩
 | e::es,[],i,r,hm,h=>by have:=hm.1; simp at this
 | e::es,e'::vs,i,r,hm,h=>by
  obtain ⟨v0,q0,q1,q2,q3⟩:=hm.2 0 e rfl
  simp at q0; subst q0
  have hm':qns x es vs:=⟨by have:=hm.1; simpa using this,fun j d hd=>by simpa using hm.2 (j+1) d (by simpa using hd)⟩
  simp only [qhr] at h
  cases hk:toV e.key with
  | none=>simp [hk] at h
  | some k' =>
   simp only [hk] at h
   have ek:=(q81 _ _ hk x _).1 q1
   cases he:eqv T 50 kt k k' with
   | none=>simp [he] at h
   | some b =>
    cases b with
    | true =>
     simp only [he,zA] at h
     subst h
     exact .inr ⟨i,e.val,e'.val,rfl,by simp [qbv,ek,he],q2,zF _,e,e',by simp,rfl,by simp,q1,q3,rfl⟩
    | false =>
     simp only [he] at h
     rcases qio (i+1) hm' h with ⟨h1,h2⟩ | ⟨j,u,v,h1,h2,h3,h4,d,d',h5,h6,h7,h8⟩
     ·exact .inl ⟨h1,by simp [qbv,ek,he,h2]⟩
     ·refine .inr ⟨j,u,v,h1,by simp [qbv,ek,he,h2],h3,by omega,d,d',?_,h6,?_,h8⟩
      ·rw [show j - i=(j - (i+1))+1 by omega]; simpa using h5
      ·rw [show j - i=(j - (i+1))+1 by omega]; simpa using h7
theorem qv3 {l:List U} {off:Nat} {lv:List Value} (h:qlf T t l off=some u) (hl:q3z x l lv) (hk:okL l=true) :
  ∃ v,(match T.und t with
    | none=>none
    | some d=>cond (q72 d) (match q0x T t with
      | some n=>match seg lv off n with
       | some cs=>some (.agg cs.toArray)
       | none=>none
      | none=>none) (nth lv off))=some v∧Rel x u v:=by
 unfold qlf at h
 cases hd:T.und t with
 | none=>simp [hd] at h
 | some d =>
  simp only [hd] at h ⊢
  cases ha:q72 d with
  | true =>
   simp only [ha,zC] at h ⊢
   cases hs:q0x T t with
   | none=>simp [hs] at h
   | some n =>
    simp only [hs] at h ⊢
    cases hg:qfl l off n with
    | none=>simp [hg] at h
    | some cs =>
     simp only [hg,zA] at h
     subst h
     obtain ⟨h1,rfl⟩:=qbp hg
     have hlen:=q3z.len hl
     rw [qsr (by omega)]
     refine ⟨_,rfl,?_⟩
     simp only [Rel]
     have:=(hl.drop off).takeE
     have e1:q1o x ((l.drop off).take n) ((lv.drop off).take n):=by
      refine q1o.mk' (by simp; omega) fun i u hu=>?_
      rw [List.getElem?_take] at hu ⊢
      split at hu
      ·rename_i hlt; simp only [hlt,if_true]; exact (q9v x _ _).1 (hl.drop off) i u hu
      ·cases hu
     exact ⟨_,rfl,e1.1,e1.2,qcd (q8l hk _) _⟩
  | false =>
   simp only [ha,zD,q2o] at h ⊢
   exact (q9v x _ _).1 hl _ _ h
theorem qkq (hx:qfj x) {k st:Nat} {l:List U} (h:cellsOf x.σ k st=some l) {off:Nat} {v:Value} (hr:Rel x (.ptr k st off) v) :
  ∃ i lv e md,x.ρ k=some i∧v = .pointer (some ⟨i,off,none⟩)∧lk x.s.h i=some (.inl (lv,e,md))∧md≠1∧q1o x l lv∧okL l=true ∧
   ((md=0∧gt x.σ.h k=some (.row l e))∨(∃ sz,md=sz+2∧0<sz∧gt x.σ.h k=some (.vec l e sz st))):=by
 unfold cellsOf at h
 cases hg:gt x.σ.h k with
 | none=>simp [hg] at h
 | some b =>
  cases b with
  | row l' e =>
   simp only [hg,beq_eq] at h
   by_cases hst:0=st
   ·subst hst
    simp at h
    subst h
    obtain ⟨i,hi,rfl⟩:=qew (x:=x) (by simp [live,hg,B.st]) hr
    obtain ⟨_,k1,i',lv,e1,e2,e3⟩:=hx.ok k _ hg
    rw [hi] at e1; cases e1
    exact ⟨i,lv,e,0,hi,rfl,e2,by omega,e3,k1,.inl ⟨rfl,rfl⟩⟩
   ·simp [hst] at h
  | vec l' e sz st' =>
   simp only [hg,beq_eq] at h
   by_cases hst:st'=st
   ·subst hst
    simp at h
    subst h
    obtain ⟨i,hi,rfl⟩:=qew (x:=x) (by simp [live,hg,B.st]) hr
    obtain ⟨_,k1,k2,h3⟩:=hx.ok k _ hg
    rcases h3 with ⟨h4,h5⟩ | ⟨i',lv,e1,e2,e3⟩
    ·rw [hi] at h5; cases h5
    ·rw [hi] at e1; cases e1
     exact ⟨i,lv,e,sz+2,hi,rfl,e2,by omega,e3,k1,.inr ⟨sz,rfl,k2,rfl⟩⟩
   ·simp [hst] at h
  | map es cl=>simp [hg] at h
theorem qvq (hx:qfj x) {tm:List U} {tv:List Value} (ht:q1o x tm tv) {op:Op} (h:qbw T x.σ tm op=some u):Sim T x tv op u x.σ:=by
 unfold qbw at h
 cases op with
 | load t o =>
  simp only at h
  cases ho:q0u tm o with
  | none=>simp [ho] at h
  | some a =>
   obtain ⟨va,a1,a2⟩:=q0v ht ho
   cases a with
   | ptr k st off =>
    simp only [ho] at h
    cases hc:cellsOf x.σ k st with
    | none=>simp [hc] at h
    | some l =>
     simp only [hc] at h
     obtain ⟨i,lv,e,md,q1,rfl,q2,_,q3,q4,_⟩:=qkq hx hc a2
     obtain ⟨v,r1,r2⟩:=qv3 h q3.1 q4
     exact Sim.same hx (qj4 (by simp [q57]) (by simp only [q97,a1,q2]; exact r1)) r2
   | iptr l =>
    simp only [ho] at h
    simp only [Rel] at a2
    obtain ⟨i,off,row,e,rfl,g1,g2,g3⟩:=a2
    obtain ⟨v,r1,r2⟩:=qv3 h g2 g3
    refine Sim.same hx (qj4 (by simp [q57]) (v:=v) ?_) r2
    simp only [q97,a1,g1]
    cases hd:T.und t with
    | none=>simp [hd] at r1
    | some d =>
     simp only [hd] at r1 ⊢
     cases ha:q72 d with
     | true =>
      simp only [ha,zC] at r1 ⊢
      cases hs:q0x T t with
      | none=>simp [hs] at r1
      | some n=>simp only [hs,seg,List.drop_drop,Nat.add_zero] at r1 ⊢; exact r1
     | false =>
      simp only [ha,zD,q2o,List.getElem?_drop,Nat.add_zero] at r1 ⊢
      exact r1
   | _=>simp [ho] at h
 | lookup t a b ok =>
  simp only at h
  cases hd:T.und t with
  | none=>simp [hd] at h
  | some d =>
  cases d with
  | map kt et =>
   cases ha:q0u tm a with
   | none=>simp [hd,ha] at h
   | some m =>
    cases hb:q0u tm b with
    | none=>simp [hd,ha,hb] at h
    | some ku =>
     simp only [hd,ha,hb] at h
     obtain ⟨va,a1,a2⟩:=q0v ht ha
     obtain ⟨vb,b1,b2⟩:=q0v ht hb
     cases hk:toV ku with
     | none=>simp [hk] at h
     | some kv =>
      simp only [hk] at h
      have ekv:=(q81 _ _ hk x vb).1 b2
      subst ekv
      cases hkey:qk5 T 50 kt vb with
      | false=>simp [hkey] at h
      | true =>
       simp only [hkey,zC] at h
       have key:∀ (es:List ME) (vs:List MapEntry),(va = .map none∧vs=[]∨∃ i cl,va = .map (some i)∧lk x.s.h i=some (.inr (vs,cl)))→qns x es vs→(match qhr T kt vb es 0 with
          | none=>none
          | some (some (_,v))=>some (cond ok (.tup [v,.bool true]) v)
          | some none=>match T.inf et with
           | some (_,_,z)=>(match ofV z with
            | some zu=>some (cond ok (.tup [zu,.bool false]) zu)
            | none=>none)
           | none=>none)=some u→Sim T x tv (.lookup t a b ok) u x.σ:=by
        intro es vs e1 e3 h
        have fin:∀ v,q97 T tv x.s (.lookup t a b ok)=some v→Rel x u v→Sim T x tv (.lookup t a b ok) u x.σ:=fun v h1 h2=>Sim.same hx (qj4 (by simp [q57]) h1) h2
        have tup2:∀ (p:U) (q:Value) (bb:Bool),Rel x p q→Rel x (cond ok (.tup [p,.bool bb]) p) (cond ok (.tuple #[q,.bool bb]) q):=fun p q bb hpq=>by
         cases ok with
         | false=>exact hpq
         | true=>simp only [zC,Rel]; exact ⟨[q,.bool bb],rfl,by simp [q3z,hpq,Rel],rfl⟩
        cases hf:qhr T kt vb es 0 with
        | none=>simp [hf] at h
        | some r' =>
         rcases qio 0 e3 hf with ⟨rfl,h2⟩ | ⟨j,w,v,rfl,h2,h3,_⟩
         ·simp only [hf] at h
          cases hi:T.inf et with
          | none=>simp [hi] at h
          | some q =>
           obtain ⟨q1,q2,z⟩:=q
           simp only [hi] at h
           cases hz:ofV z with
           | none=>simp [hz] at h
           | some zu =>
            simp only [hz,zA] at h
            subst h
            have hrd:q97 T tv x.s (.lookup t a b ok)=some (cond ok (.tuple #[z,.bool false]) z):=by
             rcases e1 with ⟨rfl,rfl⟩ | ⟨i,cl,rfl,e1⟩
             ·simp only [q97,hd,a1,b1,hkey,zC,h2,hi]
             ·simp only [q97,hd,a1,b1,hkey,zC,e1,h2,hi]
            exact fin _ hrd (tup2 _ _ _ ((qj2 _ _ hz).2 x))
         ·simp only [hf,zA] at h
          subst h
          have hrd:q97 T tv x.s (.lookup t a b ok)=some (cond ok (.tuple #[v,.bool true]) v):=by
           rcases e1 with ⟨rfl,rfl⟩ | ⟨i,cl,rfl,e1⟩
           ·simp only [q97,hd,a1,b1,hkey,zC,h2]
           ·simp only [q97,hd,a1,b1,hkey,zC,e1,h2]
          exact fin _ hrd (tup2 _ _ _ h3)
       cases m with
       | nilm =>
        simp only [Rel] at a2
        exact key [] [] (.inl ⟨a2,rfl⟩) ⟨rfl,by simp⟩ h
       | map r =>
        simp only at h
        cases hg:gt x.σ.h r with
        | none=>simp [hg] at h
        | some bb =>
         cases bb with
         | map es cl =>
          simp only [hg] at h
          obtain ⟨i,hi,rfl⟩:=qlu (x:=x) (by simp [live,hg,B.st]) a2
          obtain ⟨_,i',es',e1,e2,e3⟩:=hx.ok r _ hg
          rw [hi] at e1; cases e1
          exact key es es' (.inr ⟨i,cl,rfl,e2⟩) e3 h
         | _=>simp [hg] at h
       | _=>simp at h
  | _=>simp [hd] at h
 | _=>simp at h
variable {x:Cx}
variable {k:Nat}
variable {b:B}
theorem BOk.mono {y:Cx} (h:BOk x k b) (hm:Mo x.σ.nx x y) (hρ:y.ρ k=x.ρ k) (hl:∀ i c,x.ρ k=some i→lk x.s.h i=some c→lk y.s.h i=some c):BOk y k b:=by
 have relm:∀ {es:List ME} {es':List MapEntry},qns x es es'→qns y es es':=fun {es es'} e3=>⟨e3.1,fun j e he=>by
  obtain ⟨v,q1,q2,q3,q4⟩:=e3.2 j e he
  exact ⟨v,q1,hm.ke _ _ (Rel.bel _ _ q2) q2,hm.ke _ _ (Rel.bel _ _ q3) q3,q4⟩⟩
 cases b with
 | row l e=>obtain ⟨k1,i,l',e1,e2,e3⟩:=h; exact ⟨k1,i,l',by rw [hρ,e1],hl _ _ e1 e2,hm.ke.E e3.bel e3⟩
 | vec l e sz st =>
  obtain ⟨k1,k2,h3⟩:=h
  refine ⟨k1,k2,?_⟩
  rcases h3 with ⟨h3,h4⟩ | ⟨i,l',e1,e2,e3⟩
  ·exact .inl ⟨h3,by rw [hρ,h4]⟩
  ·exact .inr ⟨i,l',by rw [hρ,e1],hl _ _ e1 e2,hm.ke.E e3.bel e3⟩
 | map es cl=>obtain ⟨i,es',e1,e2,e3⟩:=h; exact ⟨i,es',by rw [hρ,e1],hl _ _ e1 e2,relm e3⟩
theorem BOk.not1 {i:Nat} (h:BOk x k b) (hi:x.ρ k=some i) {row:List Value} {e:TypeId}:lk x.s.h i≠some (.inl (row,e,1)):=by
 intro hl
 cases b with
 | row l e'=>obtain ⟨_,i',l',e1,e2,_⟩:=h; rw [hi] at e1; cases e1; rw [hl] at e2; cases e2
 | vec l e' sz st =>
  obtain ⟨_,_,h3⟩:=h
  rcases h3 with ⟨_,h4⟩ | ⟨i',l',e1,e2,_⟩
  ·rw [hi] at h4; cases h4
  ·rw [hi] at e1; cases e1; rw [hl] at e2; cases e2
 | map es cl=>obtain ⟨i',es',e1,e2,_⟩:=h; rw [hi] at e1; cases e1; rw [hl] at e2; cases e2
theorem step1 {y:Cx} (hx:qfj x) (K:Nat) (bK:B) (hn:x.σ.nx≤y.σ.nx) (hK:K<y.σ.nx) (hother:∀ k,k≠K→gt y.σ.h k=gt x.σ.h k∧y.ρ k=x.ρ k) (hnew:gt y.σ.h K=some bK)
  (hold:(∃ b0,gt x.σ.h K=some b0∧b0.st≤bK.st∧(b0.st=bK.st→y.ρ K=x.ρ K∧∀ l e sz st,b0 = .vec l e sz st→∃ l',bK = .vec l' e sz st))∨(gt x.σ.h K=none∧x.σ.nx≤K))
  (hrows:∀ i b,lk x.s.h i=some b→(∀ c,gt x.σ.h K=some c→x.ρ K≠some i)→lk y.s.h i=some b)
  (hfresh:∀ i,y.ρ K=some i→(∃ c,gt x.σ.h K=some c∧x.ρ K=some i)∨x.s.nx≤i) (hbd:∀ i b,lk y.s.h i=some b→i<y.s.nx) (hB:Mo x.σ.nx x y→BOk y K bK):Out x y:=by
 have hmo:Mo x.σ.nx x y:=by
  refine ⟨fun k hk _=>⟨by omega,fun b' hb'=>?_⟩,fun i row e hl=>hrows i _ hl fun c hc he=>(hx.ok K c hc).2.not1 he hl⟩
  by_cases e:k=K
  ·subst e
   rw [hnew] at hb'; cases hb'
   rcases hold with ⟨b0,h1,h2,h3⟩ | ⟨_,h2⟩
   ·exact ⟨b0,h1,h2,h3⟩
   ·omega
  ·obtain ⟨h1,h2⟩:=hother k e
   exact ⟨b',by rw [← h1,hb'],zF _,fun _=>⟨h2,fun l e sz st h=>⟨l,h⟩⟩⟩
 have hne:∀ k b i c,k≠K→gt x.σ.h k=some b→x.ρ k=some i→gt x.σ.h K=some c→x.ρ K≠some i:=fun k b i c hk hb hi hc he=>hk (hx.inj k K b c i hb hc hi he)
 refine ⟨⟨fun k b hb=>?_,fun k k' b b' i hb hb' hi hi'=>?_,hbd⟩,hmo,fun F hF i b hb=>?_⟩
 ·by_cases e:k=K
  ·subst e; rw [hnew] at hb; cases hb; exact ⟨hK,hB hmo⟩
  ·obtain ⟨h1,h2⟩:=hother k e
   rw [h1] at hb
   obtain ⟨h3,h4⟩:=hx.ok k b hb
   exact ⟨by omega,h4.mono hmo h2 fun i c hi hl=>hrows i c hl fun d hd=>hne k b i d e hb hi hd⟩
 ·have own:∀ k b i,k≠K→gt y.σ.h k=some b→y.ρ k=some i→gt x.σ.h k=some b∧x.ρ k=some i∧i<x.s.nx:=fun k b i e hb hi=>by
   obtain ⟨h1,h2⟩:=hother k e
   rw [h1] at hb
   rw [h2] at hi
   refine ⟨hb,hi,?_⟩
   have:=(hx.ok k b hb).2
   cases b with
   | row l e=>obtain ⟨_,i',l',e1,e2,_⟩:=this; rw [hi] at e1; cases e1; exact hx.bd _ _ e2
   | vec l e' sz st =>
    obtain ⟨_,_,h3⟩:=this
    rcases h3 with ⟨_,h4⟩ | ⟨i',l',e1,e2,_⟩
    ·rw [hi] at h4; cases h4
    ·rw [hi] at e1; cases e1; exact hx.bd _ _ e2
   | map es cl=>obtain ⟨i',es',e1,e2,_⟩:=this; rw [hi] at e1; cases e1; exact hx.bd _ _ e2
  by_cases e:k=K
  ·by_cases e':k'=K
   ·rw [e,e']
   ·exfalso
    subst e
    obtain ⟨q1,q2,q3⟩:=own k' b' i e' hb' hi'
    rcases hfresh i hi with ⟨c,hc,hc'⟩ | hge
    ·exact e' (hx.inj k' k b' c i q1 hc q2 hc')
    ·omega
  ·by_cases e':k'=K
   ·exfalso
    subst e'
    obtain ⟨q1,q2,q3⟩:=own k b i e hb hi
    rcases hfresh i hi' with ⟨c,hc,hc'⟩ | hge
    ·exact e (hx.inj k k' b c i q1 hc q2 hc')
    ·omega
   ·obtain ⟨q1,q2,_⟩:=own k b i e hb hi
    obtain ⟨q3,q4,_⟩:=own k' b' i e' hb' hi'
    exact hx.inj k k' b b' i q1 q3 q2 q4
 ·obtain ⟨h1,h2⟩:=hF i b hb
  refine ⟨hrows i b h1 fun c hc=>h2 K c hc,fun k c hc hi=>?_⟩
  by_cases e:k=K
  ·subst e
   rcases hfresh i hi with ⟨d,hd,hd'⟩ | hge
   ·exact h2 k d hd hd'
   ·have:=hx.bd i b h1; omega
  ·obtain ⟨q1,q2⟩:=hother k e
   rw [q1] at hc; rw [q2] at hi
   exact h2 k c hc hi
def qh9 (ρ:Nat→Option Nat) (k:Nat) (o:Option Nat):Nat→Option Nat:=fun j=>if j=k then o else ρ j
theorem qnf (ρ:Nat→Option Nat) (k:Nat) (o:Option Nat):qh9 ρ k o k=o:=by simp [qh9]
theorem qu5 (ρ:Nat→Option Nat) {j:Nat} (o:Option Nat) (h:j≠k):qh9 ρ k o j=ρ j:=by simp [qh9,h]
theorem gt_nx (hx:qfj x):gt x.σ.h x.σ.nx=none:=by
 cases h:gt x.σ.h x.σ.nx with
 | none=>rfl
 | some b=>have:=(hx.ok _ b h).1; omega
theorem qqi (hx:qfj x) (b:B) (c:Blk) (hB:∀ y:Cx,y.ρ x.σ.nx=some x.s.nx→lk y.s.h x.s.nx=some c→Mo x.σ.nx x y→BOk y x.σ.nx b) :
  Out x ⟨qh9 x.ρ x.σ.nx (some x.s.nx),q8k x.σ b,⟨(x.s.nx,c)::x.s.h,x.s.nx+1⟩⟩:=by
 refine step1 hx x.σ.nx b (by simp [q8k]) (by simp [q8k]) (fun k hk=>⟨by simp [q8k,q2b,Ne.symm hk],qu5 _ _ hk⟩) (by simp [q8k,q2b]) (.inr ⟨gt_nx hx,zF _⟩) (fun i d hd _=>?_) (fun i hi=>?_) (fun i d hd=>?_) (fun hm=>?_)
 ·have:=hx.bd i d hd
  simp [q2n,show x.s.nx≠i by omega,hd]
 ·change qh9 _ _ _ _=some i at hi; rw [qnf] at hi; cases hi; exact .inr (zF _)
 ·simp only [q2n] at hd
  split at hd
  ·show i<x.s.nx+1; omega
  ·exact Nat.lt_succ_of_lt (hx.bd i d hd)
 ·exact hB _ (by simp [qh9]) (by simp [q2n]) hm
theorem qjl (hx:qfj x) (e:TypeId) (sz:Nat) (hsz:0<sz):Out x ⟨qh9 x.ρ x.σ.nx none,q8k x.σ (.vec [] e sz 0),x.s⟩:=by
 refine step1 hx x.σ.nx (.vec [] e sz 0) (by simp [q8k]) (by simp [q8k]) (fun k hk=>⟨by simp [q8k,q2b,Ne.symm hk],qu5 _ _ hk⟩) (by simp [q8k,q2b]) (.inr ⟨gt_nx hx,zF _⟩) (fun i d hd _=>hd) (fun i hi=>?_) hx.bd (fun hm=>?_)
 ·change qh9 _ _ _ _=some i at hi; rw [qnf] at hi; cases hi
 ·exact ⟨rfl,hsz,.inl ⟨rfl,by simp [qh9]⟩⟩
theorem qnb {c:Blk} {st:Nat} (hst:b.st=st) {p:Option Nat→Prop} (hp:p (some x.s.nx)):Ref ⟨qh9 x.ρ x.σ.nx (some x.s.nx),q8k x.σ b,⟨(x.s.nx,c)::x.s.h,x.s.nx+1⟩⟩ x.σ.nx st p:=by
 refine ⟨by simp [q8k],fun b' hb'=>?_⟩
 simp only [q8k,q2b,if_true,zA] at hb'
 subst hb'
 exact ⟨Nat.le_of_eq hst.symm,fun _=>by simpa [qh9] using hp⟩
theorem qgz (hx:qfj x) {K i:Nat} {b0 bK:B} {c:Blk} (h0:gt x.σ.h K=some b0) (hi:x.ρ K=some i) {c0:Blk} (hc0:lk x.s.h i=some c0) (hst:b0.st=bK.st) (hv:∀ l e sz st,b0 = .vec l e sz st→∃ l',bK = .vec l' e sz st)
  (hB:∀ y:Cx,y.ρ K=some i→lk y.s.h i=some c→Mo x.σ.nx x y→BOk y K bK):Out x ⟨x.ρ,⟨ug x.σ.h K bK,x.σ.nx⟩,⟨up x.s.h i c,x.s.nx⟩⟩:=by
 refine step1 hx K bK (zF _) (hx.ok K _ h0).1 (fun k hk=>⟨by simp [qrl,Ne.symm hk],rfl⟩) (by simp [qrl,h0]) (.inl ⟨b0,h0,Nat.le_of_eq hst,fun _=>⟨rfl,hv⟩⟩) (fun j d hd hne=>?_) (fun j hj=>.inl ⟨b0,h0,hj⟩) (fun j d hd=>?_) (fun hm=>?_)
 ·have:i≠j:=fun e=>hne b0 h0 (by rw [hi,e])
  simp [qh6,this,hd]
 ·simp only [qh6] at hd
  split at hd
  ·rename_i e; subst e; exact hx.bd i _ hc0
  ·exact hx.bd j d hd
 ·exact hB _ hi (by simp [qh6,hc0]) hm
theorem qel {zu:List U} {z:List Value} (h:q1o x zu z) (n:Nat):q1o x (qa1 zu n) (zeros z n):=by
 induction n with
 | zero=>exact q1o.nil x
 | succ n ih=>simp only [qa1,List.replicate_succ,List.flatten_cons,zeros]; exact h.append ih
theorem qqp {zu:List U} (h:okL zu=true) (n:Nat):okL (qa1 zu n)=true:=by
 induction n with
 | zero=>rfl
 | succ n ih=>simp only [qa1,List.replicate_succ,List.flatten_cons]; exact q66 h ih
section
variable {T:Tb} {x:Cx} (hx:qfj x) {tm:List U} {tv:List Value} (ht:q1o x tm tv)
include hx
theorem qgs {l:List U} {l':List Value} (hl:q1o x l l') (hk:okL l=true) (e:TypeId):Out x ⟨qh9 x.ρ x.σ.nx (some x.s.nx),q8k x.σ (.row l e),Rx.newRow x.s l' e 0⟩ :=
 qqi hx (.row l e) (.inl (l',e,0)) fun y h1 h2 hm=>⟨hk,x.s.nx,l',h1,h2,hm.ke.E hl.bel hl⟩
theorem qgt {l:List U} {l':List Value} (hl:q1o x l l') (hk:okL l=true) (e:TypeId) {sz:Nat} (hsz:0<sz):Out x ⟨qh9 x.ρ x.σ.nx (some x.s.nx),q8k x.σ (.vec l e sz 0),Rx.newRow x.s l' e (sz+2)⟩ :=
 qqi hx (.vec l e sz 0) (.inl (l',e,sz+2)) fun y h1 h2 hm=>⟨hk,hsz,.inr ⟨x.s.nx,l',h1,h2,hm.ke.E hl.bel hl⟩⟩
variable {t:TypeId}
variable {r:U}
variable {σ':Sg}
theorem z0n {p u:U} {pv uv:Value} (h:qnj T x.σ t p u=some (r,σ')) (hp:Rel x p pv) (hu:Rel x u uv) :
  ∃ v y,qoz T x.s t pv uv=some (v,y.s)∧y.σ=σ'∧Rel y r v∧Out x y:=by
 unfold qnj at h
 cases p with
 | ptr k st off =>
  simp only at h
  cases hs:q0x T t with
  | none=>simp [hs] at h
  | some n =>
   simp only [hs] at h
   cases hc:qa2 u with
   | none=>simp [hc] at h
   | some cs =>
    simp only [hc] at h
    obtain ⟨c1,c2⟩:=qm8 hu hc
    cases hlen:Nat.beq cs.length n with
    | false=>simp [hlen] at h
    | true =>
     simp only [hlen,zC,c2] at h
     cases hrow:cellsOf x.σ k st with
     | none=>simp [hrow] at h
     | some l =>
      simp only [hrow] at h
      obtain ⟨i,lv,e,md,q1,rfl,q2,q3,q4,q5,q6⟩:=qkq hx hrow hp
      have c1':=z71 (σ:=x.σ) (k:=k) c1
      have c2':okL (wkB x.σ k cs)=true:=by rw [wkB_ok]; exact c2
      cases hput:ql4 l off (wkB x.σ k cs) with
      | none=>simp [hput] at h
      | some l1 =>
       simp only [hput] at h
       obtain ⟨rv,p1,p2,p3⟩:=qpv hput q4 c1'
       have p4:=p3 q5 c2'
       have hst:qoz T x.s t (.pointer (some ⟨i,off,none⟩)) uv=some (undef,⟨up x.s.h i (.inl (rv,e,md)),x.s.nx⟩):=by
        have hown:ownRow x.s i=some (lv,e,md):=by
         unfold ownRow
         rcases q6 with ⟨rfl,_⟩ | ⟨sz,rfl,_⟩<;>simp [q2]
        simp only [qoz,hs]
        rw [← c1.2,hlen]
        simp only [zC,qbe c1 c2,hown,p1]
       rcases q6 with ⟨rfl,hg⟩ | ⟨sz,rfl,hz,hg⟩
       ·simp only [qo3,hg,zA,zB] at h
        obtain ⟨rfl,rfl⟩:=h
        exact ⟨undef,⟨x.ρ,⟨ug x.σ.h k (.row l1 e),x.σ.nx⟩,⟨up x.s.h i (.inl (rv,e,0)),x.s.nx⟩⟩,hst,rfl,by simp [Rel],qgz hx hg q1 q2 rfl (by simp) fun y h1 h2 hm=>⟨p4,i,rv,h1,h2,hm.ke.E p2.bel p2⟩⟩
       ·simp only [qo3,hg,zA,zB] at h
        obtain ⟨rfl,rfl⟩:=h
        exact ⟨undef,⟨x.ρ,⟨ug x.σ.h k (.vec l1 e sz st),x.σ.nx⟩,⟨up x.s.h i (.inl (rv,e,sz+2)),x.s.nx⟩⟩,hst,rfl,by simp [Rel],qgz hx hg q1 q2 rfl (by rintro l e sz st h; cases h; exact ⟨_,rfl⟩) fun y h1 h2 hm=>⟨p4,hz,.inr ⟨i,rv,h1,h2,hm.ke.E p2.bel p2⟩⟩⟩
 | _=>simp at h
theorem qrw {n:Nat} {ps:List (Nat×U)} {pv:List (Nat×Value)} (h:qg7 T x.σ t n ps=some (r,σ')) (hp:qt1 x ps pv):∃ v y,qg8 T x.s t n pv=some (v,y.s)∧y.σ=σ'∧Rel y r v∧Out x y:=by
 unfold qg7 at h
 cases hd:T.und t with
 | none=>simp [hd] at h
 | some d =>
 cases d with
 | slice e =>
  simp only [hd] at h
  cases hi:T.inf e with
  | none=>simp [hi] at h
  | some q =>
   obtain ⟨sz,by_,z⟩:=q
   simp only [hi] at h
   cases h1:Nat.ble (n*sz) 16777216 with
   | false=>simp [h1] at h
   | true =>
    simp only [h1,zC] at h
    cases h2:Nat.ble n 16777216 with
    | false=>simp [h2] at h
    | true =>
     simp only [h2,zC] at h
     cases h3:Nat.beq z.cells.toList.length sz with
     | false=>simp only [h3,zD] at h; cases h
     | true =>
      simp only [h3,zC] at h
      cases h4:qlg z.cells.toList with
      | none=>simp [h4] at h
      | some zu =>
       simp only [h4] at h
       have hzr:=(qf0 _ _ h4).2 x
       cases h5:qe5 (fun i=>some (i*sz,sz)) (qa1 zu n) ps with
       | none=>simp [h5] at h
       | some cs =>
        simp only [h5] at h
        cases h6:okL cs with
        | false=>simp [h6] at h
        | true =>
         simp only [h6,zC,zA,zB] at h
         obtain ⟨rfl,rfl⟩:=h
         obtain ⟨rv,f1,f2⟩:=qin hp (qel hzr n) h5
         have hcap:n<q05:=by have:=zY h2; unfold q05; omega
         refine ⟨.slice (some ⟨x.s.nx,0,none⟩) n n,_,?_,rfl,?_,qgs hx f2 h6 e⟩
         ·simp only [qg8,hd,hi,h1,h3,zC,f1,q6n hcap]
         ·simp only [Rel]
          exact ⟨rfl,qnb rfl ⟨x.s.nx,rfl,rfl,hcap,zF _⟩⟩
 | _=>simp [hd] at h
theorem z2u {a b:U} {va vb:Value} (h:qz6 T x.σ t a b=some (r,σ')) (ha:Rel x a va) (hb:Rel x b vb):∃ v y,qz7 T x.s t va vb=some (v,y.s)∧y.σ=σ'∧Rel y r v∧Out x y:=by
 unfold qz6 at h
 cases hd:T.und t with
 | none=>simp [hd] at h
 | some d =>
 cases d with
 | slice e =>
  cases a with
  | int ka a =>
   cases b with
   | int kb b =>
    simp only [Rel] at ha hb
    subst ha; subst hb
    simp only [hd] at h
    cases hi:T.inf e with
    | none=>simp [hi] at h
    | some q =>
     obtain ⟨sz,by_,z⟩:=q
     simp only [hi] at h
     cases h4:qlg z.cells.toList with
     | none=>simp [h4] at h
     | some zu =>
      simp only [h4] at h
      have hzr:=(qf0 _ _ h4).2 x
      cases h6:okL zu with
      | false=>simp [h6] at h
      | true =>
       simp only [h6,zC] at h
       cases h3:Nat.beq z.cells.toList.length sz with
       | false=>simp only [h3,zD] at h; cases h
       | true =>
        simp only [h3,zC] at h
        split at h
        ·rename_i hc
         simp only [zA,zB] at h
         obtain ⟨rfl,rfl⟩:=h
         obtain ⟨c1,c2,c3,c4⟩:=hc
         have hwa:IntKind.i64.wrap a=Int.ofNat a.toNat:=by rw [wrap_i64 (by omega) (by omega)]; simp; omega
         have hwb:IntKind.i64.wrap b=Int.ofNat b.toNat:=by rw [wrap_i64 (by omega) (by omega)]; simp; omega
         have hcap:b.toNat<q05:=by unfold q05; omega
         refine ⟨.slice (some ⟨x.s.nx,0,none⟩) a.toNat b.toNat,_,?_,rfl,?_,qgs hx (qel (qnq hzr) b.toNat) (qqp (by rw [qp0]; exact h6) _) e⟩
         ·simp only [qz7,hd,hi,hwa,hwb,h3,zC,q6n hcap,Nat.ble_eq_true_of_le c3,Nat.ble_eq_true_of_le (show a.toNat≤b.toNat by omega)]
         ·simp only [Rel]
          exact ⟨rfl,qnb rfl ⟨x.s.nx,rfl,rfl,hcap,by omega⟩⟩
        ·cases h
   | _=>simp [hd] at h
  | _=>simp [hd] at h
 | _=>simp [hd] at h
end
end Go.Vx
end
