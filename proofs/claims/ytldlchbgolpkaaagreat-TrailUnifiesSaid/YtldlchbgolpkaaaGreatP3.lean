/-
  Texts of the walk: RxC RxD.
-/
import Derived.Laws.StructEq
import Derived.Test.YtldlchbgolpkaaaGreatP2
set_option linter.unusedSimpArgs false
set_option linter.unusedVariables false
section
namespace Go.Rx
open Go
structure qfp (P:Program) (T:Tb):Prop where
 und:∀ t d,T.und t=some d→P.underlying t=some d
 inf:∀ t a b z,T.inf t=some (a,b,z)→plain z=true∧∃ i,P.info? t=some i∧i.size=a∧i.bytes=b∧i.zero=some z
 fn : ∀ f g, T.fn f = some g → P.funcs[f]? = some g ∧ (g.body.isSome = true → (g.name == "runtime.NumGoroutine") = false)
 eqs:∀ t,T.eqs t=true→P.stoodInHeld t=false∧P.eqGuardType P.depth t=false
 mixed:P.follows .mixedOrders=true
theorem q2o {α:Type} (l:List α) (n:Nat):nth l n=l[n]?:=by
 induction l generalizing n with
 | nil=>simp [nth]
 | cons a l ih=>cases n<;>simp [nth,ih]
variable {l:List Value}
variable {n:Nat}
variable {r:List Value}
theorem qx8 (h:qnl l n=some r):r=l.take n∧n≤l.length:=by
 induction l generalizing n r with
 | nil=>cases n<;>simp_all [qnl]
 | cons v l ih =>
  cases n with
  | zero=>simp_all [qnl]
  | succ n =>
   simp only [qnl] at h
   cases hl:qnl l n with
   | none=>simp [hl] at h
   | some r' =>
    simp [hl] at h
    obtain ⟨e,hn⟩:=ih hl
    subst h
    simp [e]; exact hn
variable {off:Nat}
theorem qjj (h:seg l off n=some r):r=(l.drop off).take n∧n≤l.length - off:=by
 have:=qx8 h
 simpa using this
theorem qu4 (h:seg l off n=some r):r.length=n:=by
 obtain ⟨rfl,hn⟩:=qjj h
 simp; omega
theorem z0c (h:seg l off n=some r) {j:Nat} {v:Value} (hj:r[j]? = some v):l[off+j]? = some v:=by
 obtain ⟨rfl,hn⟩:=qjj h
 rw [List.getElem?_take] at hj
 split at hj
 ·simpa using hj
 ·cases hj
theorem qzx {vs:List Value} (h:qxe l vs=some r):vs.length≤l.length∧r=vs++l.drop vs.length:=by
 induction vs generalizing l r with
 | nil=>simp [qxe] at h; simp [h]
 | cons v vs ih =>
  cases l with
  | nil=>simp [qxe] at h
  | cons x l =>
   simp only [qxe] at h
   cases hp:qxe l vs with
   | none=>simp [hp] at h
   | some r' =>
    simp [hp] at h
    obtain ⟨e1,e2⟩:=ih hp
    subst h
    simp [e2]; exact e1
theorem qs7 {vs:List Value} (h:qnx l off vs=some r):off+vs.length≤l.length∧r=l.take off++vs++l.drop (off+vs.length):=by
 induction off generalizing l r with
 | zero =>
  have h':qxe l vs=some r:=by cases l<;>simpa [qnx] using h
  obtain ⟨e1,e2⟩:=qzx h'
  simp [e2]; exact e1
 | succ n ih =>
  cases l with
  | nil=>simp [qnx] at h
  | cons x l =>
   simp only [qnx] at h
   cases hp:qnx l n vs with
   | none=>simp [hp] at h
   | some r' =>
    simp [hp] at h
    obtain ⟨e1,e2⟩:=ih hp
    subst h
    simp only [zO,List.take_succ_cons,List.cons_append,e2]
    refine ⟨by omega,?_⟩
    have:n+1+vs.length=(n+vs.length)+1:=by omega
    rw [this,List.drop_succ_cons]
theorem qwa (h:q78 l=true):∀ v∈l,v.oneCell'=true:=by
 induction l with
 | nil=>simp
 | cons v l ih =>
  simp only [q78] at h
  cases hv:v.oneCell' with
  | false=>simp [hv] at h
  | true =>
   simp [hv] at h
   intro u hu
   rcases zI.1 hu with rfl | hu
   ·exact hv
   ·exact ih h u hu
theorem qoe {m:Nm} (h:q78 l=true):∀ v∈renL m l,v.oneCell'=true:=by
 intro v hv
 rw [q2s] at hv
 obtain ⟨u,hu,rfl⟩:=List.mem_map.1 hv
 rw [qtt]
 exact qwa h u hu
mutual
theorem q51 (m:Nm):(v:Value)→plain v=true→ren m v=v
 | .bool _,_=>by simp [ren]
 | .int _ _,_=>by simp [ren]
 | .string _,_=>by simp [ren]
 | .pointer none,_=>by simp [ren]
 | .slice none _ _,_=>by simp [ren]
 | .map none,_=>by simp [ren]
 | .nilFunc,_=>by simp [ren]
 | .nilIface,_=>by simp [ren]
 | .agg ⟨l⟩,h=>by simp only [plain] at h; simp [ren,qkg m l h]
 | .tuple ⟨l⟩,h=>by simp only [plain] at h; simp [ren,qkg m l h]
 | .float _ _,h=>by simp [plain] at h
 | .complex _ _ _,h=>by simp [plain] at h
 | .pointer (some _),h=>by simp [plain] at h
 | .slice (some _) _ _,h=>by simp [plain] at h
 | .map (some _),h=>by simp [plain] at h
 | .chan _,h=>by simp [plain] at h
 | .func _ _ _,h=>by simp [plain] at h
 | .iface _ _,h=>by simp [plain] at h
theorem qkg (m:Nm):(l:List Value)→ql3 l=true→renL m l=l
 | [],_=>by simp [renL]
 | v::l,h=>by
  simp only [ql3] at h
  cases hv:plain v with
  | false=>simp [hv] at h
  | true=>simp [hv] at h; simp [renL,q51 m v hv,qkg m l h]
end
theorem qgh (a b:List UInt8):q22 a b=(a == b):=by
 induction a generalizing b with
 | nil=>cases b<;>simp [q22]
 | cons x a ih =>
  cases b with
  | nil=>simp [q22]
  | cons y b =>
   simp only [q22,beq_eq,ih]
   by_cases e:x=y
   ·subst e; simp
   ·have:x.toNat≠y.toNat:=fun h=>e (UInt8.toNat_inj.1 h)
    simp [this,e]
theorem qwi (a b:List UInt8):q1v a b=Op.bytesLess a b:=by
 induction a generalizing b with
 | nil=>cases b<;>simp [q1v,Op.bytesLess]
 | cons x a ih =>
  cases b with
  | nil=>simp [q1v,Op.bytesLess]
  | cons y b =>
   simp only [q1v,Op.bytesLess,ih,beq_eq]
   have hlt:Nat.blt x.toNat y.toNat=decide (x<y):=by
    rw [Bool.eq_iff_iff]; simp [Nat.blt_eq,UInt8.lt_iff_toNat_lt]
   rw [hlt]
   by_cases h1:x<y
   ·simp [h1]
   ·by_cases e:x=y
    ·subst e; simp
    ·have:x.toNat≠y.toNat:=fun h=>e (UInt8.toNat_inj.1 h)
     simp [h1,e,this]
section
variable {P:Program} {T:Tb} (hT:qfp P T) (m:Nm) {tm:List Value} {a:Act} (w:World)
include hT
variable {t:TypeId}
theorem q14 {d:TypeDesc} (h:T.und t=some d):(underlying t).run P w = .ok d w:=run_underlying (hT.und t d h) w
theorem q1y (h:q0x T t=some n):(sizeOf t).run P w = .ok n w:=by
 unfold q0x at h
 cases hi:T.inf t with
 | none=>simp [hi] at h
 | some x =>
  obtain ⟨a,b,z⟩:=x
  simp [hi] at h
  obtain ⟨_,i,h1,h2,_,_⟩:=hT.inf t a b z hi
  simp [sizeOf,typeInfo,h1,h2,h]
theorem q9w {x:Nat×Nat×Value} (h:T.inf t=some x):(zeroValue t).run P w = .ok x.2.2 w∧ren m x.2.2=x.2.2:=by
 obtain ⟨a,b,z⟩:=x
 obtain ⟨hp,i,h1,_,_,h4⟩:=hT.inf t a b z h
 exact ⟨by simp [zeroValue,typeInfo,h1,h4],q51 m z hp⟩
theorem qso {d:TypeDesc} (h:T.und t=some d):(isAgg t).run P w = .ok (q72 d) w:=by
 unfold isAgg
 simp only [zK,q14 hT w h,zJ]
 cases d<;>rfl
theorem qji {cs:List Value} {v:Value} (h:qli T t cs off=some v) :
  (part t ⟨renL m cs⟩ off).run P w = .ok (ren m v) w:=by
 unfold qli at h
 cases hd:T.und t with
 | none=>simp [hd] at h
 | some d =>
  simp only [hd] at h
  unfold part
  simp only [zK,qso hT w hd,zJ]
  cases hag:q72 d with
  | true =>
   simp only [hag,zC] at h
   cases hs:q0x T t with
   | none=>simp [hs] at h
   | some n =>
    simp [hs] at h
    subst h
    simp only [if_true,zK,q1y hT w hs,zJ,zL,ren]
    simp [q2s,List.map_drop,List.map_take]
  | false =>
   simp only [hag,zD,q2o] at h
   simp [q2s,h]
theorem z5t {E:TypeId→Value→Value→Option Bool} {d:Nat} (hE:∀ t x y b w,E t x y=some b→(Op.equalIn d t (ren m x) (ren m y)).run P w = .ok b w)
  (xs ys:List Value) (fs:List Field) {b:Bool} (w:World) (h:eqFs T E xs ys fs=some b) :
  (Op.eqFields d ⟨renL m xs⟩ ⟨renL m ys⟩ fs).run P w = .ok b w:=by
 induction fs generalizing w with
 | nil=>simp [eqFs] at h; simp [Op.eqFields,h]
 | cons f fs ih =>
  simp only [eqFs] at h
  simp only [Op.eqFields]
  split at h
  ·rename_i hn
   simp only [hn,ne_eq,not_false_eq_true,if_true]
   cases h1:qli T f.type xs f.offset with
   | none=>simp [h1] at h
   | some x =>
    simp only [h1] at h
    cases h2:qli T f.type ys f.offset with
    | none=>simp [h2] at h
    | some y =>
     simp only [h2] at h
     cases h3:E f.type x y with
     | none=>simp [h3] at h
     | some r =>
      simp only [zK,qji hT m w h1,zJ,qji hT m w h2,hE _ _ _ _ w h3]
      cases r with
      | false=>simp [h3] at h; simp [h]
      | true=>simp only [h3] at h; simpa using ih w h
  ·rename_i hn
   simp only [hn,if_false]
   exact ih w h
theorem eqv_ok (d k:Nat) {x y:Value} {b:Bool} (w:World) (h:eqv T d t x y=some b) :
  (Op.equalIn (d+k) t (ren m x) (ren m y)).run P w = .ok b w:=by
 induction d generalizing t x y b w with
 | zero=>simp [eqv] at h
 | succ d ih =>
  have hsucc:d+1+k=(d+k)+1:=by omega
  rw [hsucc]
  simp only [eqv] at h
  cases hd:T.und t with
  | none=>simp [hd] at h
  | some ty =>
   have hu:=q14 hT w hd
   cases ty with
   | bool =>
    simp only [hd] at h
    cases x<;>cases y<;>simp at h
    subst h
    simp [Op.equalIn,hu,ren]
   | int kk =>
    simp only [hd] at h
    cases x<;>cases y<;>simp at h
    obtain ⟨rfl,h⟩:=h
    simp [Op.equalIn,hu,ren,h]
   | string =>
    simp only [hd] at h
    cases x<;>cases y<;>simp at h
    subst h
    rename_i s1 s2
    simp only [Op.equalIn,zK,hu,ren,zJ,zL,qgh]
    rw [beq_toListBytes,ByteArray.toList_eq,ByteArray.toList_eq]
   | pointer e =>
    simp only [hd] at h
    cases x<;>cases y<;>try simp at h
    rename_i p q
    cases p<;>cases q<;>simp at h<;>subst h<;>simp [Op.equalIn,hu,ren]
   | slice e =>
    simp only [hd] at h
    cases x<;>cases y<;>try simp at h
    ·rename_i p _ _ q _ _
     cases p<;>cases q<;>simp at h<;>subst h<;>simp [Op.equalIn,hu,ren]
    ·rename_i p q _ _
     cases p<;>cases q<;>simp at h<;>subst h<;>simp [Op.equalIn,hu,ren]
   | map e e' =>
    simp only [hd] at h
    cases x<;>cases y<;>try simp at h
    rename_i p q
    cases p<;>cases q<;>simp at h<;>subst h<;>simp [Op.equalIn,hu,ren]
   | struct fs =>
    simp only [hd] at h
    cases x<;>cases y<;>simp at h
    rename_i xs ys
    obtain ⟨xs⟩:=xs
    obtain ⟨ys⟩:=ys
    cases he:T.eqs t with
    | false=>simp [he] at h
    | true =>
     simp only [he,zC] at h
     have hund:=hT.und t _ hd
     have hfo:P.fieldsOf t=fs:=by simp [Program.fieldsOf,hund]
     simp only [ren,renA_mk]
     rw [run_equalIn_struct w (d+k) t _ _ (by rw [hfo]; exact hund) (hT.eqs t he).1,hfo]
     exact z5t hT m (fun t x y b w hh=>ih w hh) xs ys fs.toList w h
   | _=>simp [hd] at h
end
end Go.Rx
end
section
namespace Go.Rx
open Go
variable {m:Nm}
variable {tm:List Value}
variable {a:Act}
variable {v:Value}
theorem q18 (ha:a.tmps=⟨renL m tm⟩) {x:Operand} (h:evalO tm x=some v):a.eval x=ren m v:=by
 cases x with
 | tmp t =>
  simp only [evalO,q2o] at h
  simp [Act.eval,ha,q2s,h]
 | const c =>
  simp only [evalO] at h
  cases hp:plain c with
  | false=>simp [hp] at h
  | true=>simp [hp] at h; subst h; simp [Act.eval,q51 m c hp]
 | func f=>simp [evalO] at h; subst h; simp [Act.eval,ren,renL]
 | global g=>simp [evalO] at h
theorem z2a (ha:a.tmps=⟨renL m tm⟩) {l:List Operand} {vs:List Value} (h:q6o tm l=some vs):l.map a.eval=renL m vs:=by
 induction l generalizing vs with
 | nil=>simp [q6o] at h; subst h; simp [renL]
 | cons x l ih =>
  simp only [q6o] at h
  cases hx:evalO tm x with
  | none=>simp [hx] at h
  | some v =>
   cases hl:q6o tm l with
   | none=>simp [hx,hl] at h
   | some r=>simp [hx,hl] at h; subst h; simp [renL,q18 ha hx,ih hl]
theorem q3f (ha:a.tmps=⟨renL m tm⟩) {l:Array Operand} {vs:List Value} (h:q6o tm l.toList=some vs):l.map a.eval=⟨renL m vs⟩:=by
 rw [← z2a ha h]
 cases l; simp
theorem qpc (ha:a.tmps=⟨renL m tm⟩) {l:List (Nat×Operand)} {vs:List (Nat×Value)} (h:qmg tm l=some vs) :
  l.map (fun p=>(p.1,a.eval p.2))=vs.map (fun p=>(p.1,ren m p.2)):=by
 induction l generalizing vs with
 | nil=>simp [qmg] at h; subst h; simp
 | cons x l ih =>
  obtain ⟨i,x⟩:=x
  simp only [qmg] at h
  cases hx:evalO tm x with
  | none=>simp [hx] at h
  | some v =>
   cases hl:qmg tm l with
   | none=>simp [hx,hl] at h
   | some r=>simp [hx,hl] at h; subst h; simp [q18 ha hx,ih hl]
theorem qc8 (ha:a.tmps=⟨renL m tm⟩) {x:Option Operand} {v:Option Value} (h:qc7 tm x=some v):x.map a.eval=v.map (ren m):=by
 cases x with
 | none=>simp [qc7] at h; subst h; rfl
 | some x =>
  simp only [qc7] at h
  cases hx:evalO tm x with
  | none=>simp [hx] at h
  | some u=>simp [hx] at h; subst h; simp [q18 ha hx]
theorem qr8 (op : BinOp) (t : TypeId) (x y : Operand) (u v : Value) (h1 : ∀ a b, ¬ (u = .agg a ∧ v = .agg b)) (h2 : ¬ (u = .nilIface ∧ v = .nilIface)) : eqGuard op t x y u v = pure () := by
  cases op <;> simp only [eqGuard] <;> first
    | rfl
    | (simp only [Bool.not_true, Bool.false_eq_true, if_false]
       split
       · simp_all
       · simp_all
       · rfl)
theorem z06 {c:Array Value} (h:ren m v = .agg c):∃ d,v = .agg d:=by
 cases v with
 | pointer a=>cases a<;>simp [ren] at h
 | slice a n c=>cases a<;>simp [ren] at h
 | map r=>cases r<;>simp [ren] at h
 | chan r=>cases r<;>simp [ren] at h
 | agg d=>exact ⟨d,rfl⟩
 | _=>simp [ren] at h
theorem ql9 (h:ren m v = .nilIface):v = .nilIface:=by
 cases v with
 | pointer a=>cases a<;>simp [ren] at h
 | slice a n c=>cases a<;>simp [ren] at h
 | map r=>cases r<;>simp [ren] at h
 | chan r=>cases r<;>simp [ren] at h
 | nilIface=>rfl
 | _=>simp [ren] at h
theorem qyh (off:Nat):∀ (vs:List Value) (k:Nat) (cells:List Value),off+k+vs.length≤cells.length →
  (vs.zipIdx k).foldl (fun (cs:Array Value) (p:Value×Nat)=>cs.setIfInBounds (off+p.2) p.1) ⟨cells⟩=⟨cells.take (off+k)++vs++cells.drop (off+k+vs.length)⟩
 | [],k,cells,_=>by simp
 | v::vs,k,cells,h=>by
  simp only [zO] at h
  simp only [List.zipIdx_cons,List.foldl_cons,List.setIfInBounds_toArray]
  rw [qyh off vs (k+1) (cells.set (off+k) v) (by simp; omega)]
  congr 1
  have e1:(cells.set (off+k) v).take (off+(k+1))=cells.take (off+k)++[v]:=by
   rw [show off+(k+1)=off+k+1 by omega,List.take_set,List.take_succ_eq_append_getElem (by omega)]
   rw [List.set_append_right _ _ (by simp; omega)]
   simp [Nat.min_eq_left (show off+k≤cells.length by omega)]
  have e2:(cells.set (off+k) v).drop (off+(k+1)+vs.length)=cells.drop (off+k+(v::vs).length):=by
   rw [List.drop_set_of_lt (by omega)]
   congr 1
   simp; omega
  rw [e1,e2]
  simp
theorem qmj (m:Nm) (place:Nat→Option (Nat×Nat)):∀ (ps:List (Nat×Value)) (cells r:List Value),qk3 place cells ps=some r →
  Instr.fill place ⟨renL m cells⟩ (ps.map fun p=>(p.1,ren m p.2))=some ⟨renL m r⟩
 | [],cells,r,h=>by simp [qk3] at h; simp [Instr.fill,h]
 | (i,v)::ps,cells,r,h=>by
  simp only [qk3] at h
  cases hp:place i with
  | none=>simp [hp] at h
  | some x =>
   obtain ⟨off,size⟩:=x
   simp only [hp,beq_eq] at h
   by_cases hs:v.cells.toList.length=size
   ·simp only [hs,yC,zC] at h
    cases hq:qnx cells off v.cells.toList with
    | none=>simp [hq] at h
    | some c =>
     simp only [hq] at h
     obtain ⟨h1,h2⟩:=qs7 hq
     have hsz:v.cells.size=size:=by simpa using hs
     simp only [zQ,Instr.fill,hp,qik,size_renA,hsz]
     have hno:(decide (size≠size) || decide (off+size > (⟨renL m cells⟩:Array Value).size))=false:=by
      simp; simp [hsz] at h1; omega
     rw [hno]
     simp only [Bool.false_eq_true,if_false]
     have hfold:((qx2 m v.cells).zipIdx.foldl (fun (cs:Array Value) (p:Value×Nat)=>cs.setIfInBounds (off+p.2) p.1) ⟨renL m cells⟩)=⟨renL m c⟩:=by
      rw [← Array.foldl_toList,Array.toList_zipIdx,toList_renA,qyh off _ 0 _ (by simp; simpa using h1)]
      rw [h2]
      simp [q2s,List.map_drop,List.map_take]
     exact (congrArg (fun z=>Instr.fill place z (ps.map fun p=>(p.1,ren m p.2))) hfold).trans (qmj m place ps c r h)
   ·simp only [hs,yB,zD] at h; cases h
variable {t:TypeId}
variable {x:Value}
variable {y:Value}
theorem qr9 {T:Tb} {d:Nat} {r:Bool} (h:eqv T d t x y=some r) :
  (∃ a b,x = .bool a∧y = .bool b)∨(∃ k a k' b,x = .int k a∧y = .int k' b)∨(∃ a b,x = .string a∧y = .string b)∨(∃ a b,x = .pointer a∧y = .pointer b) ∨
  (∃ a n c b n' c',x = .slice a n c∧y = .slice b n' c')∨(∃ a b,x = .map a∧y = .map b)∨(∃ a b,x = .agg a∧y = .agg b)∨(∃ r n c,x = .chan (some r)∧y = .slice none n c):=by
 cases d with
 | zero=>simp [eqv] at h
 | succ d =>
  simp only [eqv] at h
  cases hd:T.und t with
  | none=>simp [hd] at h
  | some ty =>
   cases ty<;>simp only [hd] at h<;>first
    | (simp at h; done)
    | (cases x<;>cases y<;>first | (simp at h; done) | (simp; done) | (rename_i p q _ _; cases p<;>cases q<;>simp at h ⊢))
section
variable {P:Program} {T:Tb} (hT:qfp P T) (m:Nm) (w:World)
include hT
theorem z2k (op:BinOp) (ox oy:Operand) (h:qcy T t x y=true):(eqGuard op t ox oy (ren m x) (ren m y)).run P w = .ok () w:=by
 by_cases ha:∃ c d,x = .agg c∧y = .agg d
 ·obtain ⟨c,d,rfl,rfl⟩:=ha
  simp only [qcy] at h
  simp only [ren]
  exact run_eqGuard_agg w op t ox oy _ _ (hT.eqs t h).2
 ·rw [qr8 op t ox oy]
  ·rfl
  ·rintro a b ⟨h1,h2⟩
   obtain ⟨c,rfl⟩:=z06 h1
   obtain ⟨d,rfl⟩:=z06 h2
   exact ha ⟨c,d,rfl,rfl⟩
  ·rintro ⟨h1,h2⟩
   rw [ql9 h1,ql9 h2] at h
   simp [qcy] at h
theorem qlp {b:Bool} (h:eqv T 50 t x y=some b):(Op.equal t (ren m x) (ren m y)).run P w = .ok b w :=
 eqv_ok hT m 50 9950 w h
theorem bin_ok (op:BinOp) (ox oy:Operand) (h:qnz T op t x y=some v) :
  (do eqGuard op t ox oy (ren m x) (ren m y); binOp op t (ren m x) (ren m y):Sem Value).run P w = .ok (ren m v) w:=by
 by_cases hi:∃ k a k' b,x = .int k a∧y = .int k' b
 ·obtain ⟨k,a,k',b,rfl,rfl⟩:=hi
  simp only [qnz] at h
  simp only [ren,eqGuard_at_int,zK,zL,zJ]
  by_cases hk:k=k'
  ·subst hk
   cases op<;>simp [qfg] at h<;>first
    | (subst h; simp [binOp,Op.intArith,Op.intBits,Op.intCmp,ren]; done)
    | (obtain ⟨h1,rfl⟩:=h; simp [binOp,Op.intDiv,Op.shift,ren,h1]; done)
    | (obtain ⟨h1,rfl⟩:=h; simp [binOp,Op.shift,ren]; omega)
  ·cases op<;>simp [qfg,hk] at h<;>first
    | (obtain ⟨h1,rfl⟩:=h; simp [binOp,Op.shift,ren]; omega)
 ·by_cases hs:∃ a b,x = .string a∧y = .string b
  ·obtain ⟨a,b,rfl,rfl⟩:=hs
   simp only [qnz] at h
   simp only [ren,eqGuard_at_string,zK,zL,zJ]
   have e1:a.toList=a.data.toList:=ByteArray.toList_eq a
   have e2:b.toList=b.data.toList:=ByteArray.toList_eq b
   cases op<;>simp [strX] at h<;>first
    | (subst h; simp [binOp,Op.stringOp,ren,e1,e2,qgh,qwi]; done)
    | skip
   obtain ⟨h1,rfl⟩:=h
   have h2:¬ ((a.size+b.size:Nat):Int) > 9223372036854775807:=by
    have ea:a.size=a.data.size:=rfl
    have eb:b.size=b.data.size:=rfl
    rw [ea,eb]; omega
   simp only [binOp,Op.stringOp,IntKind.max_i64,if_neg h2,zL,ren]
   have e3:a++b=⟨(a.data.toList++b.data.toList).toArray⟩:=by
    apply ByteArray.ext
    simp
   rw [e3]
  ·have hb:(op = .eql∨op = .neq)∧qcy T t x y=true∧∃ r,eqv T 50 t x y=some r∧v = .bool (if op = .eql then r else !r):=by
    unfold qnz at h
    split at h
    ·exact absurd ⟨_,_,_,_,rfl,rfl⟩ hi
    ·exact absurd ⟨_,_,rfl,rfl⟩ hs
    ·cases op<;>simp at h
     ·cases hg:qcy T t x y with
      | false=>simp [hg] at h
      | true =>
       cases he:eqv T 50 t x y with
       | none=>simp [hg,he] at h
       | some r=>simp [hg,he] at h; subst h; simp
     ·cases hg:qcy T t x y with
      | false=>simp [hg] at h
      | true =>
       cases he:eqv T 50 t x y with
       | none=>simp [hg,he] at h
       | some r=>simp [hg,he] at h; subst h; simp
   obtain ⟨hop,hg,r,he,rfl⟩:=hb
   have hq:=qlp hT m w he
   simp only [zK,z2k hT m w op ox oy hg,zJ]
   have hsh:=qr9 he
   rcases hop with rfl | rfl
   ·have key:binOp .eql t (ren m x) (ren m y)=(do pure (.bool (← Op.equal t (ren m x) (ren m y))):Sem Value):=by
     rcases hsh with ⟨a,b,rfl,rfl⟩ | ⟨k,a,k',b,rfl,rfl⟩ | ⟨a,b,rfl,rfl⟩ | ⟨a,b,rfl,rfl⟩ | ⟨a,n,c,b,n',c',rfl,rfl⟩ | ⟨a,b,rfl,rfl⟩ | ⟨a,b,rfl,rfl⟩ | ⟨r,n,c,rfl,rfl⟩
     ·simp [ren,binOp]
     ·exact absurd ⟨_,_,_,_,rfl,rfl⟩ hi
     ·exact absurd ⟨_,_,rfl,rfl⟩ hs
     ·cases a<;>cases b<;>simp [ren,binOp]
     ·cases a<;>cases b<;>simp [ren,binOp]
     ·cases a<;>cases b<;>simp [ren,binOp]
     ·simp [ren,binOp]
     ·simp [ren,binOp]
    rw [key]
    simp [hq,ren]
   ·have key:binOp .neq t (ren m x) (ren m y)=(do pure (.bool (!(← Op.equal t (ren m x) (ren m y)))):Sem Value):=by
     rcases hsh with ⟨a,b,rfl,rfl⟩ | ⟨k,a,k',b,rfl,rfl⟩ | ⟨a,b,rfl,rfl⟩ | ⟨a,b,rfl,rfl⟩ | ⟨a,n,c,b,n',c',rfl,rfl⟩ | ⟨a,b,rfl,rfl⟩ | ⟨a,b,rfl,rfl⟩ | ⟨r,n,c,rfl,rfl⟩
     ·simp [ren,binOp]
     ·exact absurd ⟨_,_,_,_,rfl,rfl⟩ hi
     ·exact absurd ⟨_,_,rfl,rfl⟩ hs
     ·cases a<;>cases b<;>simp [ren,binOp]
     ·cases a<;>cases b<;>simp [ren,binOp]
     ·cases a<;>cases b<;>simp [ren,binOp]
     ·simp [ren,binOp]
     ·simp [ren,binOp]
    rw [key]
    simp [hq,ren]
omit hT in
theorem un_ok {op:UnOp} {x v:Value} (h:unX op x=some v):(Op.unary op (ren m x)).run P w = .ok (ren m v) w:=by
 cases op<;>cases x<;>simp [unX] at h<;>subst h<;>simp [Op.unary,ren,Op.intArith,Op.intBits]
theorem z5o {src dst:TypeId} (h:convX T src dst x=some v):(convert src dst (ren m x)).run P w = .ok (ren m v) w:=by
 unfold convX at h
 cases h1:T.und src with
 | none=>simp [h1] at h
 | some d1 =>
  cases h2:T.und dst with
  | none=>simp [h1,h2] at h
  | some d2 =>
   simp only [h1,h2] at h
   unfold convert
   simp only [zK,q14 hT w h1,q14 hT w h2,zJ]
   cases d2<;>cases x<;>simp at h<;>subst h<;>cases d1<;>simp [ren,Conv.intToInt]
theorem qwv (fs:List Field) (hs:qge T fs=true):(fs.mapM (fun f=>do pure (f.offset,← sizeOf f.type):Field→Sem (Nat×Nat))).run P w = .ok (fs.map fun f=>(f.offset,(q0x T f.type).getD 0)) w:=by
 induction fs with
 | nil=>simp
 | cons f fs ih =>
  simp only [qge] at hs
  cases hf:q0x T f.type with
  | none=>simp [hf] at hs
  | some n =>
   simp only [hf] at hs
   have ih':=ih hs
   simp only [List.mapM_cons,zK,q1y hT w hf,zJ,zL,ih',zQ,hf,Option.getD_some]
omit hT in
theorem qx5 {fs:List Field} (hs:qge T fs=true) {i:Nat} {f:Field} (hf:fs[i]? = some f):∃ n,q0x T f.type=some n:=by
 induction fs generalizing i with
 | nil=>simp at hf
 | cons g fs ih =>
  simp only [qge] at hs
  cases hg:q0x T g.type with
  | none=>simp [hg] at hs
  | some n =>
   simp only [hg] at hs
   cases i with
   | zero=>simp at hf; subst hf; exact ⟨n,hg⟩
   | succ i=>exact ih hs (by simpa using hf)
theorem z1n {ps:List (Nat×Value)} (h:qr0 T t ps=some v) :
  (Instr.build t (ps.map fun p=>(p.1,ren m p.2)).toArray).run P w = .ok (ren m v) w:=by
 unfold qr0 at h
 cases hi:T.inf t with
 | none=>simp [hi] at h
 | some x =>
  obtain ⟨a,b,z⟩:=x
  obtain ⟨hz,hzr⟩:=q9w hT m w hi
  simp only at hz hzr
  have hzc:z.cells=⟨renL m z.cells.toList⟩:=by
   conv=>lhs; rw [← hzr,qik]
   cases z.cells; simp
  simp only [hi] at h
  unfold Instr.build
  simp only [zK,hz,zJ]
  cases hd:T.und t with
  | none=>simp [hd] at h
  | some d =>
   simp only [q14 hT w hd,zJ]
   cases d with
   | struct fs =>
    simp only [hd] at h
    cases hs:qge T fs.toList with
    | false=>simp [hs] at h
    | true =>
     simp only [hs,zC] at h
     cases hf:qk3 (qdv T fs.toList) z.cells.toList ps with
     | none=>simp [hf] at h
     | some cs =>
      simp [hf] at h
      subst h
      have hm:=qwv hT w fs.toList hs
      have hm':(fs.mapM (fun f=>do pure (f.offset,← sizeOf f.type):Field→Sem (Nat×Nat))).run P w = .ok ⟨fs.toList.map fun f=>(f.offset,(q0x T f.type).getD 0)⟩ w:=by
       rw [Array.mapM_eq_mapM_toList]
       simp only [Sem.run_map,hm,zJ]
      have hpl:(fun i=>(⟨fs.toList.map fun f=>(f.offset,(q0x T f.type).getD 0)⟩:Array (Nat×Nat))[i]?)=qdv T fs.toList:=by
       funext i
       simp only [qdv,q2o]
       cases hfi:fs.toList[i]? with
       | none=>simp at hfi; simp [hfi]
       | some f =>
        obtain ⟨n,hn⟩:=qx5 hs hfi
        have:fs[i]? = some f:=by simpa using hfi
        simp [this,hn]
      have hfill:=qmj m (qdv T fs.toList) ps z.cells.toList cs hf
      simp only [zK,hm',zJ,hpl]
      rw [hzc]
      simp only [hfill,zL,ren,renA_mk]
   | array n e =>
    simp only [hd] at h
    cases hs:q0x T e with
    | none=>simp [hs] at h
    | some k =>
     simp only [hs] at h
     cases hf:qk3 (fun i=>some (i*k,k)) z.cells.toList ps with
     | none=>simp [hf] at h
     | some cs =>
      simp [hf] at h
      subst h
      have hfill:=qmj m (fun i=>some (i*k,k)) ps z.cells.toList cs hf
      simp only [zK,q1y hT w hs,zJ]
      rw [hzc]
      simp only [hfill,zL,ren,renA_mk]
   | _=>simp [hd] at h
omit hT in
theorem qbd (b o n:Nat):(⟨b,o,none⟩:Addr).add n=⟨b,o+n,none⟩:=Addr.add_lit b o n
theorem qwq {st:TypeId} {f:Nat} (h:qim T st x f=some v):(Instr.fieldAt st (ren m x) f).run P w = .ok (ren m v) w:=by
 unfold qim at h
 cases hd:T.und st with
 | none=>simp [hd] at h
 | some d =>
  cases d with
  | struct fs =>
   simp only [hd,q2o] at h
   cases hf:fs.toList[f]? with
   | none=>simp at hf; simp [hf] at h
   | some fd =>
    have hf':fs[f]? = some fd:=by simpa using hf
    simp only [hf] at h
    cases x with
    | pointer p =>
     cases p with
     | none=>simp at h
     | some a =>
      simp only at h
      cases hs:q0x T fd.type with
      | none=>simp [hs] at h
      | some n =>
       cases n with
       | zero=>simp [hs] at h
       | succ n =>
        simp [hs] at h
        subst h
        simp [Instr.fieldAt,q14 hT w hd,hf',ren,Instr.sureAddr,fieldPlace,q1y hT w hs,qbd,Nat.add_assoc]
    | _=>simp at h
  | _=>simp [hd] at h
theorem z2c {st:TypeId} {f:Nat} (h:qrg T st x f=some v):(Instr.field st (ren m x) f).run P w = .ok (ren m v) w:=by
 unfold qrg at h
 cases hd:T.und st with
 | none=>simp [hd] at h
 | some d =>
  cases d with
  | struct fs =>
   simp only [hd,q2o] at h
   cases hf:fs.toList[f]? with
   | none=>simp at hf; simp [hf] at h
   | some fd =>
    have hf':fs[f]? = some fd:=by simpa using hf
    simp only [hf] at h
    cases x with
    | agg cs =>
     obtain ⟨cs⟩:=cs
     simp only at h
     simp [Instr.field,q14 hT w hd,hf',ren,asAgg,qji hT m w h]
    | _=>simp at h
  | _=>simp [hd] at h
omit hT in
theorem qeu {i:Int} {n:Nat} (h:inR i n=true):0≤i∧i<n:=by
 cases i with
 | ofNat k=>simp only [inR,Nat.blt_eq] at h; exact ⟨Int.natCast_nonneg k,Int.ofNat_lt.2 h⟩
 | negSucc k=>simp [inR] at h
theorem qwt {ix:Value} (h:qiv T t x ix=some v):(Instr.indexAt t (ren m x) (ren m ix)).run P w = .ok (ren m v) w:=by
 unfold qiv at h
 cases ix with
 | int k i =>
  simp only at h
  cases hd:T.und t with
  | none=>simp [hd] at h
  | some d =>
   cases d with
   | array n e =>
    simp only [hd] at h
    cases x with
    | pointer p =>
     cases p with
     | none=>simp at h
     | some a =>
      simp only at h
      cases hr:inR i n with
      | false=>simp [hr] at h
      | true =>
       cases hs:q0x T e with
       | none=>simp [hr,hs] at h
       | some sz =>
        simp [hr,hs] at h
        subst h
        have:=qeu hr
        simp [Instr.indexAt,asIntOf,ren,q14 hT w hd,Instr.sureAddr,this,q1y hT w hs,qbd,Nat.add_assoc]
    | _=>simp at h
   | slice e =>
    simp only [hd] at h
    cases x with
    | slice p n c =>
     cases p with
     | none=>simp at h
     | some a =>
      simp only at h
      cases hr:inR i n with
      | false=>simp [hr] at h
      | true =>
       cases hs:q0x T e with
       | none=>simp [hr,hs] at h
       | some sz =>
        simp [hr,hs] at h
        subst h
        have:=qeu hr
        simp [Instr.indexAt,asIntOf,ren,q14 hT w hd,this,q1y hT w hs,qbd,Nat.add_assoc]
    | _=>simp at h
   | _=>simp [hd] at h
 | _=>simp at h
theorem z2m {ix:Value} (h:qmp T t x ix=some v):(Instr.index t (ren m x) (ren m ix)).run P w = .ok (ren m v) w:=by
 unfold qmp at h
 cases ix with
 | int k i =>
  simp only at h
  cases hd:T.und t with
  | none=>simp [hd] at h
  | some d =>
   cases d with
   | array n e =>
    simp only [hd] at h
    cases x with
    | agg cs =>
     obtain ⟨cs⟩:=cs
     simp only at h
     cases hr:inR i n with
     | false=>simp [hr] at h
     | true =>
      cases hs:q0x T e with
      | none=>simp [hr,hs] at h
      | some sz =>
       simp only [hr,hs,zC] at h
       have:=qeu hr
       simp [Instr.index,asIntOf,ren,q14 hT w hd,this,q1y hT w hs,qji hT m w h]
    | _=>simp at h
   | string =>
    simp only [hd] at h
    cases x with
    | string s =>
     simp only [q2o] at h
     cases hr:inR i s.data.toList.length with
     | false=>simp only [hr,zD] at h; cases h
     | true =>
      simp only [hr,zC] at h
      have hi:=qeu hr
      cases hb:s.data.toList[i.toNat]? with
      | none=>simp [hb] at h
      | some b =>
       simp [hb] at h
       subst h
       have hb':s[i.toNat]? = some b:=by
        have:s.data[i.toNat]? = some b:=by simpa using hb
        obtain ⟨hlt,e⟩:=Array.getElem?_eq_some_iff.1 this
        have hlt':i.toNat<s.size:=hlt
        rw [getElem?_pos s i.toNat hlt']
        exact congrArg some e
       simp [Instr.index,asIntOf,ren,q14 hT w hd,hi.1,hb']
    | _=>simp at h
   | _=>simp [hd] at h
 | _=>simp at h
omit hT in
theorem qwo {x v:Value} {i:Nat} (h:qgj x i=some v):(Instr.extract (ren m x) i).run P w = .ok (ren m v) w:=by
 cases x with
 | tuple vs =>
  obtain ⟨vs⟩:=vs
  simp only [qgj,q2o] at h
  simp [Instr.extract,ren,q2s,h]
 | _=>simp [qgj] at h
end
section
variable {P:Program} {T:Tb} (hT:qfp P T) (m:Nm) (w:World)
include hT
variable {t:TypeId}
variable {x:Value}
variable {v:Value}
theorem len_ok {ty:TypeId} {ts:List TypeId} (h:lenX T t x=some v):(Builtin.len_ (t::ts).toArray ty #[ren m x]).run P w = .ok (ren m v) w:=by
 unfold lenX at h
 cases hd:T.und t with
 | none=>simp [hd] at h
 | some d =>
  simp only [hd] at h
  have hu:=q14 hT w hd
  cases d with
  | string =>
   cases x<;>simp at h
   subst h
   rename_i s
   simp only [Builtin.len_,List.getElem?_toArray,List.getElem?_cons_zero,zK,hu,zJ,ren,goInt,zL]
  | slice e =>
   cases x with
   | slice a _ _ =>
    simp only [zA] at h
    subst h
    cases a<;>simp [Builtin.len_,hu,ren,goInt]
   | chan r =>
    cases r with
    | none=>simp at h
    | some r =>
     simp only [zA] at h
     subst h
     simp [Builtin.len_,hu,ren,goInt]
   | _=>simp at h
  | array n e =>
   simp at h
   subst h
   simp [Builtin.len_,hu,ren,goInt]
  | _=>simp at h
theorem cap_ok {ty:TypeId} {ts:List TypeId} (h:capX T t x=some v):(Builtin.cap_ (t::ts).toArray ty #[ren m x]).run P w = .ok (ren m v) w:=by
 unfold capX at h
 cases hd:T.und t with
 | none=>simp [hd] at h
 | some d =>
  simp only [hd] at h
  have hu:=q14 hT w hd
  cases d with
  | slice e =>
   cases x with
   | slice a _ c =>
    cases a with
    | none =>
     simp only [zA] at h
     subst h
     simp [Builtin.cap_,hu,ren,goInt]
    | some a =>
     simp only at h
     cases hc:Nat.blt c q05 with
     | false=>simp [hc] at h
     | true =>
      simp only [hc,zC,zA] at h
      subst h
      have hc':c<q05:=by simpa [Nat.blt_eq] using hc
      simp [Builtin.cap_,hu,ren,goInt,capOf,hc']
   | chan r =>
    cases r with
    | none=>simp at h
    | some r =>
     simp only [zA] at h
     subst h
     simp [Builtin.cap_,hu,ren,goInt]
   | _=>simp at h
  | _=>simp at h
omit hT in
theorem max_ok {x v:Value} {l:List Value} (h:qh3 qtq x l=some v):((renL m l).foldlM Builtin.max2 (ren m x)).run P w = .ok (ren m v) w:=by
 induction l generalizing x with
 | nil=>simp [qh3] at h; simp [renL,h]
 | cons y l ih =>
  simp only [qh3] at h
  cases hxy:qtq x y with
  | none=>simp [hxy] at h
  | some z =>
   simp only [hxy] at h
   have:(Builtin.max2 (ren m x) (ren m y)).run P w = .ok (ren m z) w:=by
    cases x<;>cases y<;>simp [qtq] at hxy
    subst hxy
    simp [ren,Builtin.max2]
   simp only [renL,List.foldlM_cons,zK,this,zJ]
   exact ih h
omit hT in
theorem min_ok {x v:Value} {l:List Value} (h:qh3 qrz x l=some v):((renL m l).foldlM Builtin.min2 (ren m x)).run P w = .ok (ren m v) w:=by
 induction l generalizing x with
 | nil=>simp [qh3] at h; simp [renL,h]
 | cons y l ih =>
  simp only [qh3] at h
  cases hxy:qrz x y with
  | none=>simp [hxy] at h
  | some z =>
   simp only [hxy] at h
   have:(Builtin.min2 (ren m x) (ren m y)).run P w = .ok (ren m z) w:=by
    cases x<;>cases y<;>simp [qrz] at hxy
    subst hxy
    simp [ren,Builtin.min2]
   simp only [renL,List.foldlM_cons,zK,this,zJ]
   exact ih h
omit hT in
theorem qdj {v:Value} {y n:Nat} (h:q2v v y=some n) (Y:Nat) (hY:y≤Y) (code:BoundsCode):(Instr.sliceBound (ren m v) Y code).run P w = .ok n w∧n≤y:=by
 cases v with
 | int k i =>
  simp only [q2v] at h
  cases hr:inR i (y+1) with
  | false=>simp [hr] at h
  | true =>
   simp [hr] at h
   subst h
   have:=qeu hr
   refine ⟨?_,by omega⟩
   have h2:0≤i∧i≤(Y:Int):=by omega
   simp [Instr.sliceBound,ren,asIntOf,h2]
 | _=>simp [q2v] at h
omit hT in
theorem q99 {isS:Bool} {n c Y:Nat} {lo hi mx:Option Value} {l h M:Nat} (hb:q0y n c lo hi mx=some (l,h,M)) (hY:c≤Y) :
  (Instr.sliceBounds isS n Y (lo.map (ren m)) (hi.map (ren m)) (mx.map (ren m))).run P w = .ok (l,h,if mx.isSome then M else Y) w∧l≤h∧(mx.isSome=true→h≤M∧M≤c)∧(mx=none→M=c∧(hi.isSome=true→h≤c)∧(hi=none→h=n)):=by
 unfold q0y at hb
 cases mx with
 | some v =>
  simp only at hb
  cases h1:q2v v c with
  | none=>simp [h1] at hb
  | some M' =>
   simp only [h1] at hb
   cases hi with
   | none=>simp at hb
   | some u =>
    simp only at hb
    cases h2:q2v u M' with
    | none=>simp [h2] at hb
    | some h' =>
     simp only [h2] at hb
     have b1:=fun code=>qdj (P:=P) m w h1 Y hY code
     have b2:=fun code=>qdj (P:=P) m w h2 M' (zF _) code
     cases lo with
     | none =>
      simp at hb
      obtain ⟨rfl,rfl,rfl⟩:=hb
      have q1:=(b1 .index).2
      have q2:=(b2 .index).2
      refine ⟨?_,by omega,fun _=>⟨q2,q1⟩,by simp⟩
      simp [Instr.sliceBounds,(b1 _).1,(b2 _).1]
     | some x =>
      simp only at hb
      cases h3:q2v x h' with
      | none=>simp [h3] at hb
      | some l' =>
       simp [h3] at hb
       obtain ⟨rfl,rfl,rfl⟩:=hb
       have b3:=fun code=>qdj (P:=P) m w h3 h' (zF _) code
       have q1:=(b1 .index).2
       have q2:=(b2 .index).2
       have q3:=(b3 .index).2
       refine ⟨?_,q3,fun _=>⟨q2,q1⟩,by simp⟩
       simp [Instr.sliceBounds,(b1 _).1,(b2 _).1,(b3 _).1]
 | none =>
  simp only at hb
  cases hi with
  | some u =>
   simp only at hb
   cases h2:q2v u c with
   | none=>simp [h2] at hb
   | some h' =>
    simp only [h2] at hb
    have b2:=fun code=>qdj (P:=P) m w h2 Y hY code
    have q2:=(b2 .index).2
    cases lo with
    | none =>
     simp at hb
     obtain ⟨rfl,rfl,rfl⟩:=hb
     refine ⟨?_,by omega,by simp,fun _=>⟨rfl,fun _=>q2,by simp⟩⟩
     simp [Instr.sliceBounds,(b2 _).1]
    | some x =>
     simp only at hb
     cases h3:q2v x h' with
     | none=>simp [h3] at hb
     | some l' =>
      simp [h3] at hb
      obtain ⟨rfl,rfl,rfl⟩:=hb
      have b3:=fun code=>qdj (P:=P) m w h3 h' (zF _) code
      have q3:=(b3 .index).2
      refine ⟨?_,q3,by simp,fun _=>⟨rfl,fun _=>q2,by simp⟩⟩
      simp [Instr.sliceBounds,(b2 _).1,(b3 _).1]
  | none =>
   simp only at hb
   cases lo with
   | none =>
    simp at hb
    obtain ⟨rfl,rfl,rfl⟩:=hb
    refine ⟨?_,by omega,by simp,by simp⟩
    simp [Instr.sliceBounds]
   | some x =>
    simp only at hb
    cases h3:q2v x n with
    | none=>simp [h3] at hb
    | some l' =>
     simp [h3] at hb
     obtain ⟨rfl,rfl,rfl⟩:=hb
     have b3:=fun code=>qdj (P:=P) m w h3 n (zF _) code
     have q3:=(b3 .index).2
     refine ⟨?_,q3,by simp,by simp⟩
     simp [Instr.sliceBounds,(b3 _).1]
theorem z3h {lo hi mx:Option Value} (h:q58 T t x lo hi mx=some v) :
  (Instr.sliceAt t (ren m x) (lo.map (ren m)) (hi.map (ren m)) (mx.map (ren m))).run P w = .ok (ren m v) w:=by
 unfold q58 at h
 cases hd:T.und t with
 | none=>simp [hd] at h
 | some d =>
  simp only [hd] at h
  have hu:=q14 hT w hd
  cases d with
  | string =>
   cases x with
   | string s =>
    simp only at h
    cases mx with
    | some _=>simp at h
    | none =>
     simp only at h
     cases hb:q0y s.data.toList.length s.data.toList.length lo hi none with
     | none=>simp only [hb] at h; cases h
     | some r =>
      obtain ⟨l,hh,M⟩:=r
      simp only [hb,zA] at h
      subst h
      obtain ⟨h1,_,_,_⟩:=q99 (P:=P) (isS:=false) m w hb (zF _)
      have hsz:s.size=s.data.toList.length:=rfl
      simp only [Option.map_none] at h1
      simp only [Instr.sliceAt,zK,hu,zJ,Instr.slice,ren,Option.map_none,Option.isSome_none,Bool.false_eq_true,if_false,hsz,h1,zL]
      have e3:s.extract l hh=⟨((s.data.toList.take hh).drop l).toArray⟩:=by
       apply ByteArray.ext
       rw [ByteArray.data_extract]
       apply Array.ext'
       simp [List.drop_take]
      rw [e3]
   | _=>simp at h
  | slice e =>
   cases x with
   | slice a n c =>
    simp only at h
    cases hc:Nat.blt c q05 with
    | false =>
     simp only [hc,zD] at h
     unfold emptyS at h
     cases a with
     | none=>simp at h
     | some a =>
      cases n with
      | succ n=>simp at h
      | zero =>
       simp only at h
       cases hb:q0y 0 0 lo hi mx with
       | none=>simp [hb] at h
       | some r =>
        obtain ⟨l,hh,M⟩:=r
        simp only [hb] at h
        cases l with
        | succ l=>simp at h
        | zero =>
         cases hh with
         | succ l=>simp at h
         | zero =>
          cases M with
          | succ l=>simp at h
          | zero =>
           simp only at h
           cases hs:q0x T e with
           | none=>simp [hs] at h
           | some sz =>
            simp only [hs,zA] at h
            subst h
            obtain ⟨h1,_,_,_⟩:=q99 (P:=P) (isS:=true) (Y:=capOf m a.block c) m w hb (Nat.zero_le _)
            cases mx with
            | none =>
             simp only [Option.isSome_none,Bool.false_eq_true,if_false] at h1
             simp only [Instr.sliceAt,zK,hu,zJ,Instr.slice,ren,h1,q1y hT w hs,zL,zM,Nat.zero_mul,Nat.sub_zero,qbd,Nat.add_zero,ite_self]
            | some vm =>
             simp only [Option.isSome_some,if_true,zM] at h1
             have h0:capOf m a.block 0=0:=by simp [capOf,q05]
             simp only [Instr.sliceAt,zK,hu,zJ,Instr.slice,ren,h1,q1y hT w hs,zL,zM,Nat.zero_mul,Nat.sub_zero,qbd,Nat.add_zero,ite_self,h0]
    | true =>
     simp only [hc,zC] at h
     have hc':c<q05:=by simpa [Nat.blt_eq] using hc
     cases hb:q0y n c lo hi mx with
     | none=>simp [hb] at h
     | some r =>
      obtain ⟨l,hh,M⟩:=r
      simp only [hb] at h
      cases hs:q0x T e with
      | none=>simp [hs] at h
      | some sz =>
       simp only [hs,zA] at h
       subst h
       have hcap:∀ i,capOf m i c=c:=fun i=>by simp [capOf,hc']
       obtain ⟨h1,h2,h3,h4⟩:=q99 (P:=P) (isS:=true) (Y:=c) m w hb (zF _)
       have hM:(if mx.isSome then M else c)=M:=by
        cases mx with
        | none=>simp [(h4 rfl).1]
        | some v=>simp
       rw [hM] at h1
       have hMl:M - l<q05:=by
        cases mx with
        | none=>have:=(h4 rfl).1; omega
        | some v=>have:=(h3 rfl).2; omega
       cases a with
       | none =>
        simp only [Instr.sliceAt,zK,hu,zJ,Instr.slice,ren,h1,q1y hT w hs,zL,beq_eq]
        by_cases e:M=l<;>simp [e,ren]
       | some a =>
        simp only [Instr.sliceAt,zK,hu,zJ,Instr.slice,ren,hcap,h1,q1y hT w hs,zL,beq_eq]
        by_cases e:M=l
        ·simp [e,ren,capOf,q05]
        ·simp [e,ren,capOf,hMl,qbd,Nat.add_assoc]
   | chan r =>
    cases r with
    | none=>simp at h
    | some r =>
     simp only at h
     cases hb:q0y 0 0 lo hi mx with
     | none=>simp [hb] at h
     | some q =>
      obtain ⟨l,hh,M⟩:=q
      simp only [hb] at h
      cases hs:q0x T e with
      | none=>simp [hs] at h
      | some sz =>
       simp only [hs,zA] at h
       subst h
       obtain ⟨h1,h2,h3,h4⟩:=q99 (P:=P) (isS:=true) (Y:=0) m w hb (zF _)
       have hz:l=0∧hh=0∧M=0:=by
        cases mx with
        | none =>
         obtain ⟨q1,q2,q3⟩:=h4 rfl
         cases hi with
         | none=>have:=q3 rfl; omega
         | some v=>have:=q2 rfl; omega
        | some v=>have:=h3 rfl; omega
       obtain ⟨rfl,rfl,rfl⟩:=hz
       simp only [ite_self] at h1
       simp only [Instr.sliceAt,zK,hu,zJ,Instr.slice,ren,h1,q1y hT w hs,zL,if_true,Nat.sub_zero]
   | _=>simp at h
  | array n e =>
   cases x with
   | pointer p =>
    cases p with
    | none=>simp at h
    | some a =>
     simp only at h
     cases hb:q0y n n lo hi mx with
     | none=>simp only [hb] at h; cases h
     | some r =>
      obtain ⟨l,hh,M⟩:=r
      simp only [hb] at h
      cases hs:q0x T e with
      | none=>simp [hs] at h
      | some sz =>
       simp only [hs] at h
       cases hn:Nat.blt n q05 with
       | false=>simp [hn] at h
       | true =>
        simp only [hn,zC,zA] at h
        subst h
        have hn':n<q05:=by simpa [Nat.blt_eq] using hn
        obtain ⟨h1,h2,h3,h4⟩:=q99 (P:=P) (isS:=false) (Y:=n) m w hb (zF _)
        have hM:(if mx.isSome then M else n)=M:=by
         cases mx with
         | none=>simp [(h4 rfl).1]
         | some v=>simp
        rw [hM] at h1
        have hMl:M - l<q05:=by
         cases mx with
         | none=>have:=(h4 rfl).1; omega
         | some v=>have:=(h3 rfl).2; omega
        simp only [Instr.sliceAt,zK,hu,zJ,Instr.sureAddr,ren,h1,q1y hT w hs,zL,beq_eq]
        by_cases e:M=l
        ·simp [e,capOf,q05]
        ·simp [e,capOf,hMl,qbd,Nat.add_assoc]
   | _=>simp at h
  | _=>simp at h
theorem z6i {tm:List Value} {a:Act} (ha:a.tmps=⟨renL m tm⟩) (o:Oper) (h:q57 T tm o.op=some v):(execOp a.eval o).run P w = .ok (.value (ren m v)) w:=by
 obtain ⟨dst,op,type,pos,after,guard⟩:=o
 simp only at h
 unfold q57 at h
 cases op with
 | move x=>simp only at h; simp [execOp,q18 ha h]
 | assign x=>simp only at h; simp [execOp,q18 ha h]
 | pick c x y =>
  simp only at h
  cases hc:evalO tm c with
  | none=>simp [hc] at h
  | some cv =>
   cases cv with
   | bool b =>
    cases b with
    | true=>simp only [hc] at h; simp [execOp,q18 ha hc,q18 ha h,ren,asBool]
    | false=>simp only [hc] at h; simp [execOp,q18 ha hc,q18 ha h,ren,asBool]
   | _=>simp [hc] at h
 | build t ps =>
  simp only at h
  cases hp:qmg tm ps.toList with
  | none=>simp [hp] at h
  | some qs =>
   simp only [hp] at h
   have e1:(ps.map fun x=>(x.1,a.eval x.2))=(qs.map fun p=>(p.1,ren m p.2)).toArray:=by
    rw [← qpc ha hp]
    cases ps; simp
   have:=z1n hT m w h
   rw [← e1] at this
   simp only [execOp,zK]
   rw [this]; rfl
 | nilCheck x =>
  simp only at h
  cases hx:evalO tm x with
  | none=>simp [hx] at h
  | some u =>
   have he:=q18 ha hx
   cases u with
   | pointer p =>
    cases p with
    | none=>simp [hx] at h
    | some q=>simp [hx] at h; subst h; simp [execOp,he,ren]
   | func fn x y =>
    cases fn with
    | func f=>simp [hx] at h; subst h; simp [execOp,he,ren]
    | _=>simp [hx] at h
   | _=>simp [hx] at h
 | binOp op t x y ty =>
  simp only at h
  cases hx:evalO tm x with
  | none=>simp [hx] at h
  | some u =>
   cases hy:evalO tm y with
   | none=>simp [hx,hy] at h
   | some u' =>
    simp only [hx,hy] at h
    have:=bin_ok hT m w op x y h
    simp only [execOp,q18 ha hx,q18 ha hy]
    rw [zK,this]; rfl
 | unOp op t x =>
  simp only at h
  cases hx:evalO tm x with
  | none=>simp [hx] at h
  | some u=>simp only [hx] at h; simp [execOp,q18 ha hx,un_ok m w h]
 | convert s d x =>
  simp only at h
  cases hx:evalO tm x with
  | none=>simp [hx] at h
  | some u=>simp only [hx] at h; simp [execOp,q18 ha hx,z5o hT m w h]
 | makeFunc fn first cap =>
  simp only at h
  cases hx:q6o tm first.toList with
  | none=>simp [hx] at h
  | some u =>
   cases hy:q6o tm cap.toList with
   | none=>simp [hx,hy] at h
   | some u' =>
    simp only [hx,hy,zA] at h
    subst h
    simp [execOp,q3f ha hx,q3f ha hy,Instr.makeFunc,ren]
 | slice t x lo hi mx =>
  simp only at h
  cases hx:evalO tm x with
  | none=>simp [hx] at h
  | some u =>
   cases h1:qc7 tm lo with
   | none=>simp [hx,h1] at h
   | some l =>
    cases h2:qc7 tm hi with
    | none=>simp [hx,h1,h2] at h
    | some hh =>
     cases h3:qc7 tm mx with
     | none=>simp [hx,h1,h2,h3] at h
     | some mm =>
      simp only [hx,h1,h2,h3] at h
      have:=z3h hT m w h
      simp only [execOp,q18 ha hx,qc8 ha h1,qc8 ha h2,qc8 ha h3]
      rw [zK,this]; rfl
 | fieldAddr t x f =>
  simp only at h
  cases hx:evalO tm x with
  | none=>simp [hx] at h
  | some u=>simp only [hx] at h; simp [execOp,q18 ha hx,qwq hT m w h]
 | field t x f =>
  simp only at h
  cases hx:evalO tm x with
  | none=>simp [hx] at h
  | some u=>simp only [hx] at h; simp [execOp,q18 ha hx,z2c hT m w h]
 | indexAddr t x i =>
  simp only at h
  cases hx:evalO tm x with
  | none=>simp [hx] at h
  | some u =>
   cases hy:evalO tm i with
   | none=>simp [hx,hy] at h
   | some u'=>simp only [hx,hy] at h; simp [execOp,q18 ha hx,q18 ha hy,qwt hT m w h]
 | index t x i =>
  simp only at h
  cases hx:evalO tm x with
  | none=>simp [hx] at h
  | some u =>
   cases hy:evalO tm i with
   | none=>simp [hx,hy] at h
   | some u'=>simp only [hx,hy] at h; simp [execOp,q18 ha hx,q18 ha hy,z2m hT m w h]
 | extract x i =>
  simp only at h
  cases hx:evalO tm x with
  | none=>simp [hx] at h
  | some u=>simp only [hx] at h; simp [execOp,q18 ha hx,qwo m w h]
 | call c =>
  obtain ⟨callee,args,ats⟩:=c
  simp only at h
  cases callee with
  | builtin b =>
   cases b with
   | len =>
    simp only at h
    cases hx:q6o tm args.toList with
    | none=>simp [hx] at h
    | some vs =>
     rcases vs with _ | ⟨x,_ | ⟨y,l⟩⟩
     ·simp [hx] at h
     ·obtain ⟨ats⟩:=ats
      cases ats with
      | nil=>simp [hx] at h
      | cons t ts =>
       simp only [hx] at h
       have e1:=q3f ha hx
       simp only [renL] at e1
       have:=len_ok hT m w (ty:=type) (ts:=ts) h
       simp only [execOp,zK,resolve,zL,zJ,invoke,builtin,e1]
       rw [this]; rfl
     ·simp [hx] at h
   | cap =>
    simp only at h
    cases hx:q6o tm args.toList with
    | none=>simp [hx] at h
    | some vs =>
     rcases vs with _ | ⟨x,_ | ⟨y,l⟩⟩
     ·simp [hx] at h
     ·obtain ⟨ats⟩:=ats
      cases ats with
      | nil=>simp [hx] at h
      | cons t ts =>
       simp only [hx] at h
       have e1:=q3f ha hx
       simp only [renL] at e1
       have:=cap_ok hT m w (ty:=type) (ts:=ts) h
       simp only [execOp,zK,resolve,zL,zJ,invoke,builtin,e1]
       rw [this]; rfl
     ·simp [hx] at h
   | max =>
    simp only at h
    cases hx:q6o tm args.toList with
    | none=>simp [hx] at h
    | some vs =>
     cases vs with
     | nil=>simp [hx] at h
     | cons x l =>
      simp only [hx] at h
      have e1:=q3f ha hx
      simp only [renL] at e1
      have:=max_ok (P:=P) m w h
      simp only [execOp,zK,resolve,zL,zJ,invoke,builtin,e1,Builtin.max_]
      rw [this]; rfl
   | min =>
    simp only at h
    cases hx:q6o tm args.toList with
    | none=>simp [hx] at h
    | some vs =>
     cases vs with
     | nil=>simp [hx] at h
     | cons x l =>
      simp only [hx] at h
      have e1:=q3f ha hx
      simp only [renL] at e1
      have:=min_ok (P:=P) m w h
      simp only [execOp,zK,resolve,zL,zJ,invoke,builtin,e1,Builtin.min_]
      rw [this]; rfl
   | _=>simp at h
  | _=>simp at h
 | _=>simp at h
end
theorem qid.cell {m:Nm} {i:Nat} {l:List Value} {e:TypeId} {w:World} {md:Nat} (h:qid m i l e w md) {j:Nat} {v:Value} (hj:l[j]? = some v) :
  w.cell? ⟨m.blk i,m.sh i+j,none⟩=some (ren m v):=by
 have hlt:j<l.length:=(zG.1 hj).1
 rcases md with _ | _ | n
 ·obtain ⟨h0,h1⟩:=h
  simp [World.cell?,h1,h0,q2s,hj]
 ·obtain ⟨c,e',fr,h1,h2,_⟩:=h
  simp [World.cell?,h1,h2 j v hj]
 ·obtain ⟨pr,rest,h1,h2,_⟩:=h
  simp only [World.cell?,h1,Option.isSome_none,Bool.false_eq_true,if_false,List.getElem?_toArray,zT,← h2]
  rw [List.getElem?_append_right (by omega),Nat.add_sub_cancel_left,List.getElem?_append_left (by simpa using hlt)]
  simp [q2s,hj]
theorem q38 {P:Program} {w:World} {r:Nat} {es:Array MapEntry} {c:Nat} (h:w.heap[r]? = some (.map es c)):(getObj r).run P w = .ok (.map es c) w:=by
 simp [getObj,Sem.run,h]
variable {s:S}
theorem qf2 {i:Nat} {l:List Value} {e:TypeId} {md:Nat} (h:ownRow s i=some (l,e,md)):lk s.h i=some (.inl (l,e,md))∧md≠1:=by
 unfold ownRow at h
 cases hl:lk s.h i with
 | none=>simp [hl] at h
 | some b =>
  rcases b with ⟨l',e',md'⟩ | ⟨es,c⟩
  ·rcases md' with _ | _ | n<;>simp [hl] at h<;>obtain ⟨rfl,rfl,rfl⟩:=h<;>simp
  ·simp [hl] at h
theorem qfu {a b:Nat} (h:Nat.blt a b=false):¬ a<b:=fun hlt=>by
 have:Nat.blt a b=true:=Nat.ble_eq_true_of_le hlt
 rw [this] at h
 cases h
theorem q98 {a b:Nat} (h:Nat.blt a b=true):a<b:=zY h
theorem qx6 (c b k:Nat) (h:b≤c):c+k - b=c - b+k:=by omega
theorem quk {c:Nat} (h:q05≤c) (k:Nat):capD (c+k)=capD c+k:=qx6 c q05 k h
section
variable {P:Program} {T:Tb} (hT:qfp P T) (m:Nm) (w:World)
include hT
variable {t:TypeId}
variable {v:Value}
theorem qmw (hf:Fits m s w) {i off:Nat} {l:List Value} {e:TypeId} {md:Nat} (hl:lk s.h i=some (.inl (l,e,md)))
  (h:(match T.und t with
    | none=>none
    | some d=>cond (q72 d) (match q0x T t with
      | some n=>match seg l off n with
       | some cs=>some (Value.agg cs.toArray)
       | none=>none
      | none=>none) (nth l off))=some v) :
  (loadVar t ⟨m.blk i,m.sh i+off,none⟩).run P w = .ok (ren m v) w:=by
 have hr:qid m i l e w md:=hf.ok i _ hl
 cases hd:T.und t with
 | none=>simp [hd] at h
 | some d =>
  simp only [hd] at h
  unfold loadVar
  simp only [zK,qso hT w hd,zJ]
  cases hag:q72 d with
  | true =>
   simp only [hag,zC] at h
   cases hs:q0x T t with
   | none=>simp [hs] at h
   | some n =>
    simp only [hs] at h
    cases hg:seg l off n with
    | none=>simp [hg] at h
    | some cs =>
     simp only [hg,zA] at h
     subst h
     have hlen:(renL m cs).length=n:=by rw [length_renL]; exact qu4 hg
     have:=run_loadCells_list (P:=P) w ⟨m.blk i,m.sh i+off,none⟩ (renL m cs) (fun j u hu=>by
      rw [q2s,List.getElem?_map] at hu
      cases hc:cs[j]? with
      | none=>simp [hc] at hu
      | some u' =>
       simp [hc] at hu
       subst hu
       rw [qbd,Nat.add_assoc]
       exact hr.cell (z0c hg hc))
     rw [hlen] at this
     simp [q1y hT w hs,this,ren]
  | false =>
   simp only [hag,zD,q2o] at h
   have:=hr.cell h
   simp [this]
theorem z2o {K:TypeId→Value→Bool} {d:Nat} {b:Bool} (hK:∀ t v w,K t v=true→(Instr.checkKey b d t (ren m v)).run P w = .ok () w) (cs:List Value) (fs:List Field) (h:qyz T K cs fs=true) :
  (forIn fs PUnit.unit (fun f _ =>
    if f.name ≠ "_" then (do
     let x ← part f.type ⟨renL m cs⟩ f.offset
     Instr.checkKey b d f.type x
     pure (ForInStep.yield PUnit.unit))
    else pure (ForInStep.yield PUnit.unit)):Sem PUnit).run P w = .ok PUnit.unit w:=by
 induction fs with
 | nil=>simp
 | cons f fs ih =>
  simp only [qyz] at h
  simp only [List.forIn_cons]
  split at h
  ·rename_i hn
   cases hp:qli T f.type cs f.offset with
   | none=>simp [hp] at h
   | some v =>
    simp only [hp] at h
    cases hk:K f.type v with
    | false=>simp [hk] at h
    | true =>
     simp only [hk,zC] at h
     have h1:=qji hT m w hp
     have h2:=hK f.type v w hk
     simp only [hn,ne_eq,not_false_eq_true,if_true,zK,h1,zJ,h2,zL]
     exact ih h
  ·rename_i hn
   simp only [hn,if_false,zK,zL,zJ]
   exact ih h
theorem qrp (b:Bool) (d k:Nat) (w:World) (h:qk5 T d t v=true):(Instr.checkKey b (d+k) t (ren m v)).run P w = .ok () w:=by
 induction d generalizing t v w with
 | zero=>simp [qk5] at h
 | succ d ih =>
  have hsucc:d+1+k=(d+k)+1:=by omega
  rw [hsucc]
  simp only [qk5] at h
  cases hd:T.und t with
  | none=>simp [hd] at h
  | some ty =>
   have hu:=q14 hT w hd
   cases ty with
   | int kk=>simp [Instr.checkKey,hu]
   | string=>simp [Instr.checkKey,hu]
   | bool=>simp [Instr.checkKey,hu]
   | struct fs =>
    simp only [hd] at h
    cases v with
    | agg cs =>
     obtain ⟨cs⟩:=cs
     simp only at h
     have:=z2o hT m w (b:=b) (d:=d+k) (fun t v w hk=>ih w hk) cs fs.toList h
     simp only [Instr.checkKey,zK,hu,zJ,ren,renA_mk]
     rw [← Array.forIn_toList,this]
     rfl
    | _=>simp at h
   | _=>simp [hd] at h
theorem qxo {kt:TypeId} {k:Value} (es:List MapEntry) (i:Nat) {r:Option (Nat×Value)} (h:qbv T kt k es i=some r) :
  (Instr.findAsking kt (ren m k) (es.map (q8e m)) i).run P w = .ok (r.map fun p=>(p.1,ren m p.2)) w:=by
 induction es generalizing i with
 | nil=>simp [qbv] at h; subst h; simp [Instr.findAsking]
 | cons e es ih =>
  simp only [qbv] at h
  cases he:eqv T 50 kt k e.key with
  | none=>simp [he] at h
  | some b =>
   have hq:=qlp hT m w he
   cases b with
   | true=>simp [he] at h; subst h; simp [Instr.findAsking,q8e,hq]
   | false=>simp only [he] at h; simpa [Instr.findAsking,q8e,hq] using ih (i+1) h
omit hT in
theorem now_ok {kt:TypeId} {d:TypeDesc} (hd:T.und kt=some d) {k:Value} (es:List MapEntry) (i:Nat) {r r':Option (Nat×Value)} (h:qbv T kt k es i=some r)
  (h':Instr.findNow d (ren m k) (es.map (q8e m)) i=some r'):r'=r.map fun p=>(p.1,ren m p.2):=by
 induction es generalizing i with
 | nil=>simp [qbv] at h; subst h; simp [Instr.findNow] at h'; simp [← h']
 | cons e es ih =>
  simp only [qbv] at h
  simp only [zQ,Instr.findNow] at h'
  cases he:eqv T 50 kt k e.key with
  | none=>simp [he] at h
  | some b =>
   have key:∀ b',Instr.sameNow d (ren m k) (q8e m e).key=some b'→b'=b:=by
    intro b' hb'
    simp only [q8e] at hb'
    rcases qr9 he with ⟨x,y,hx,hy⟩ | ⟨kk,x,k',y,hx,hy⟩ | ⟨x,y,hx,hy⟩ | ⟨x,y,hx,hy⟩ | ⟨x,n,c,y,n',c',hx,hy⟩ | ⟨x,y,hx,hy⟩ | ⟨x,y,hx,hy⟩ | ⟨x,n,c,hx,hy⟩
    ·rw [hx,hy] at hb' he
     cases d<;>simp [Instr.sameNow,ren] at hb'
     simp [eqv,hd] at he
     exact hb'.symm.trans he
    ·rw [hx,hy] at hb' he
     cases d<;>simp [Instr.sameNow,ren] at hb'
     simp [eqv,hd] at he
     exact hb'.2.symm.trans he.2
    ·rw [hx,hy] at hb' he
     cases d<;>simp [Instr.sameNow,ren] at hb'
     simp [eqv,hd] at he
     rw [← hb',← he,qgh,beq_toListBytes,ByteArray.toList_eq,ByteArray.toList_eq]
    ·rw [hx,hy] at hb'
     cases x<;>cases y<;>cases d<;>simp [Instr.sameNow,ren] at hb'
    ·rw [hx,hy] at hb'
     cases x<;>cases y<;>cases d<;>simp [Instr.sameNow,ren] at hb'
    ·rw [hx,hy] at hb'
     cases x<;>cases y<;>cases d<;>simp [Instr.sameNow,ren] at hb'
    ·rw [hx,hy] at hb'
     cases d<;>simp [Instr.sameNow,ren] at hb'
    ·rw [hx,hy] at hb'
     cases d<;>simp [Instr.sameNow,ren] at hb'
   cases hsn:Instr.sameNow d (ren m k) (q8e m e).key with
   | none=>simp [hsn] at h'
   | some b' =>
    have:=key b' hsn
    subst this
    cases b' with
    | true=>simp [he] at h; subst h; simp [hsn] at h'; simp [← h',q8e]
    | false=>simp only [he] at h; simp only [hsn] at h'; exact ih (i+1) h h'
theorem qeq {kt:TypeId} {d:TypeDesc} (hd:T.und kt=some d) {k:Value} {es:List MapEntry} {r:Option (Nat×Value)} (h:qbv T kt k es 0=some r) :
  (Instr.findKey kt (ren m k) (es.map (q8e m))).run P w = .ok (r.map fun p=>(p.1,ren m p.2)) w:=by
 unfold Instr.findKey
 simp only [zK,q14 hT w hd,zJ]
 cases hn:Instr.findNow d (ren m k) (es.map (q8e m)) 0 with
 | some r'=>simp [now_ok m hd es 0 h hn]
 | none=>exact qxo hT m w es 0 h
omit hT in
theorem qlt {d:Nat} {kt:TypeId} {v:Value} (h:qk5 T d kt v=true):∃ ty,T.und kt=some ty:=by
 cases d with
 | zero=>simp [qk5] at h
 | succ d =>
  simp only [qk5] at h
  cases hd:T.und kt with
  | none=>simp [hd] at h
  | some ty=>exact ⟨ty,rfl⟩
omit hT in
theorem qho {s:S} {i sz:Nat} {l:List Value} (h:qe4 s i sz=some l):∃ e md,lk s.h i=some (.inl (l,e,md))∧(md=1∧e=sz+1∨md=sz+2):=by
 unfold qe4 at h
 cases hl:lk s.h i with
 | none=>simp [hl] at h
 | some b =>
  rcases b with ⟨l',e',md'⟩ | ⟨es,c⟩
  ·rcases md' with _ | _ | n
   ·simp [hl] at h
   ·simp only [hl,beq_eq] at h
    by_cases he:e'=sz+1
    ·simp only [he,yC,zC,zA] at h
     subst h; exact ⟨_,_,rfl,.inl ⟨rfl,he⟩⟩
    ·simp [he] at h
   ·simp only [hl,beq_eq] at h
    by_cases he:n=sz
    ·simp only [he,yC,zC,zA] at h
     subst h; exact ⟨_,_,rfl,.inr (by rw [he])⟩
    ·simp [he] at h
  ·simp [hl] at h
omit hT in
theorem qm0 {s:S} (hf:Fits m s w) {i c sz:Nat} {l:List Value} (hl:qe4 s i (sz+1)=some l) {off n:Nat} (ho:off=capD c*(sz+1)) (hn:off+n*(sz+1)≤l.length):n+capD c≤m.cp i:=by
 obtain ⟨e,md,hl,hmd⟩:=qho hl
 have h3:l.length≤m.cp i*(sz+1):=by
  rcases hmd with ⟨rfl,rfl⟩ | rfl
  ·obtain ⟨_,_,_,_,_,h3⟩:=hf.ok i _ hl
   exact h3 _ rfl
  ·obtain ⟨pr,rest,_,_,h3⟩:=hf.ok i _ hl
   omega
 have:(n+capD c)*(sz+1)≤m.cp i*(sz+1):=by rw [Nat.add_mul]; omega
 exact Nat.le_of_mul_le_mul_right this (by omega)
theorem z0f (hf:Fits m s w) {x:Value} {lo hi mx:Option Value} (h:qfi T s t x lo hi mx=some v) :
  (Instr.sliceAt t (ren m x) (lo.map (ren m)) (hi.map (ren m)) (mx.map (ren m))).run P w = .ok (ren m v) w:=by
 unfold qfi at h
 cases hd:T.und t with
 | none=>simp [hd] at h
 | some dd =>
 cases dd with
 | slice e =>
  cases x with
  | slice p n c =>
   cases p with
   | none=>simp [hd] at h
   | some a =>
    simp only [hd] at h
    cases hc:Nat.blt c q05 with
    | true=>simp [hc] at h
    | false =>
     have hc':¬ c<q05:=qfu hc
     simp only [hc,zD] at h
     cases hs:q0x T e with
     | none=>simp [hs] at h
     | some sz =>
      simp only [hs] at h
      cases hr:qe4 s a.block sz with
      | none=>simp [hr] at h
      | some l =>
       simp only [hr,beq_eq] at h
       ·by_cases hoff:a.off=capD c*sz
        ·rw [decide_eq_true hoff] at h
         simp only [zC] at h
         cases hpos:Nat.blt 0 sz with
         | false=>simp [hpos] at h
         | true =>
          have hpos':0<sz:=q98 hpos
          simp only [hpos,zC] at h
          obtain ⟨sz,rfl⟩:∃ q,sz=q+1:=⟨sz - 1,by omega⟩
          obtain ⟨_,_,hl0,_⟩:=qho hr
          have hl:=hr
          have hbd:=hf.bd _ _ hl0
          have ecx:ren m (.slice (some a) n c) = .slice (some ⟨m.blk a.block,m.sh a.block+a.off,none⟩) n (m.cp a.block - capD c):=by
           simp [ren,capOf,hc']
          have hknown:(l.length - a.off) / (sz+1)≤m.cp a.block - capD c:=by
           rcases Nat.eq_zero_or_pos ((l.length - a.off) / (sz+1)) with h0 | hp
           ·omega
           ·have hle:=Nat.div_mul_le_self (l.length - a.off) (sz+1)
            have hge:a.off≤l.length:=by
             rcases Nat.lt_or_ge l.length a.off with hlt | hge
             ·rw [show l.length - a.off=0 by omega] at hp; simp at hp
             ·exact hge
            have:=qm0 m w hf (c:=c) (n:=(l.length - a.off) / (sz+1)) (off:=a.off) hl hoff (by omega)
            omega
          have hu:=q14 hT w hd
          cases mx with
          | some vm =>
           simp only at h
           cases hb1:q2v vm ((l.length - a.off) / (sz+1)) with
           | none=>simp [hb1] at h
           | some M0 =>
            simp only [hb1] at h
            cases hle0:Nat.ble (a.off+M0*(sz+1)) l.length with
            | false=>simp [hle0] at h
            | true =>
             simp only [hle0,zC] at h
             cases hb:q0y n M0 lo hi (some vm) with
             | none=>simp [hb] at h
             | some q =>
              obtain ⟨l1,hh,M⟩:=q
              simp only [hb] at h
              cases hMc:Nat.blt M q05 with
              | false=>simp [hMc] at h
              | true =>
               simp only [hMc,zC,zA] at h
               subst h
               have hMc':M<q05:=q98 hMc
               have hM0:M0≤m.cp a.block - capD c:=by
                have:=(qdj (P:=P) m w hb1 _ (zF _) .index).2
                omega
               obtain ⟨b1,b2,b3,_⟩:=q99 (P:=P) (isS:=true) m w hb hM0
               simp only [Option.isSome_some,if_true,zM] at b1
               have hMl:M - l1<q05:=Nat.lt_of_le_of_lt (Nat.sub_le _ _) hMc'
               have hrun:(Instr.sliceAt t (ren m (.slice (some a) n c)) (lo.map (ren m)) (hi.map (ren m)) ((some vm).map (ren m))).run P w = .ok (.slice (if M=l1 then some ⟨m.blk a.block,m.sh a.block+a.off,none⟩ else some ⟨m.blk a.block,m.sh a.block+a.off+l1*(sz+1),none⟩) (hh - l1) (M - l1)) w:=by
                rw [ecx]
                simp only [Instr.sliceAt,zK,hu,zJ,Instr.slice,b1,q1y hT w hs,zL,zM,qbd]
               rw [hrun]
               by_cases hMl1:M=l1
               ·rw [hMl1] at hMl ⊢
                simp only [yC,zC,ren,if_true,capOf,if_pos hMl]
               ·simp only [decide_eq_false hMl1,zD,ren,if_neg hMl1,capOf,if_pos hMl,Nat.add_assoc]
          | none =>
           simp only at h
           cases hb:q0y n ((l.length - a.off) / (sz+1)) lo hi none with
           | none=>simp [hb] at h
           | some q =>
            obtain ⟨l1,hh,M⟩:=q
            simp only [hb] at h
            cases hle0:Nat.ble (a.off+hh*(sz+1)) l.length with
            | false=>simp [hle0] at h
            | true =>
             simp only [hle0,zC] at h
             have hle1:a.off+hh*(sz+1)≤l.length:=zY hle0
             have hhC:=qm0 m w hf (c:=c) (n:=hh) (off:=a.off) hl hoff hle1
             obtain ⟨b1,b2,_,b4⟩:=q99 (P:=P) (isS:=true) m w hb hknown
             simp only [Option.isSome_none,Bool.false_eq_true,if_false] at b1
             have hrun:(Instr.sliceAt t (ren m (.slice (some a) n c)) (lo.map (ren m)) (hi.map (ren m)) ((none:Option Value).map (ren m))).run P w = .ok (.slice (if m.cp a.block - capD c=l1 then some ⟨m.blk a.block,m.sh a.block+a.off,none⟩ else some ⟨m.blk a.block,m.sh a.block+a.off+l1*(sz+1),none⟩) (hh - l1) (m.cp a.block - capD c - l1)) w:=by
              rw [ecx]
              simp only [Instr.sliceAt,zK,hu,zJ,Instr.slice,b1,q1y hT w hs,zL,zM,qbd]
             cases l1 with
             | zero =>
              simp only [zA] at h
              subst h
              rw [Nat.sub_zero,Nat.sub_zero,Nat.zero_mul,Nat.add_zero] at hrun
              by_cases hC:m.cp a.block - capD c=0
              ·rw [if_pos hC] at hrun; rw [hrun]; simp only [ren,capOf,if_neg hc']
              ·rw [if_neg hC] at hrun; rw [hrun]; simp only [ren,capOf,if_neg hc']
             | succ l1 =>
              simp only at h
              cases hlt:Nat.blt (l1+1) hh with
              | true =>
               have hlt':l1+1<hh:=q98 hlt
               simp only [hlt,zC,zA] at h
               subst h
               have hne:¬ m.cp a.block - capD c=l1+1:=by omega
               have hnc:¬ c+(l1+1)<q05:=fun hh=>hc' (Nat.lt_of_le_of_lt (Nat.le_add_right _ _) hh)
               have hcd:capD (c+(l1+1))=capD c+(l1+1):=quk (Nat.le_of_not_lt hc') _
               rw [hrun]
               simp only [ren,capOf,if_neg hnc,if_neg hne,hcd,Nat.add_assoc,Nat.sub_sub]
              | false=>simp [hlt] at h
        ·rw [decide_eq_false hoff] at h
         simp at h
  | _=>simp [hd] at h
 | _=>simp [hd] at h
theorem qi1 (hf : Fits m s w) {tm : List Value} {a : Act} (ha : a.tmps = ⟨renL m tm⟩) (o : Oper) (h : q97 T tm s o.op = some v) : (execOp a.eval o).run P w = .ok (.value (ren m v)) w := by
  obtain ⟨dst, op, type, pos, after, guard⟩ := o
  simp only at h
  unfold q97 at h
  cases op with
  | load t x =>
    simp only at h
    cases hx : evalO tm x with
    | none => simp [hx] at h
    | some u =>
      cases u with
      | pointer p =>
        cases p with
        | none => simp [hx] at h
        | some b =>
          simp only [hx] at h
          cases hl : lk s.h b.block with
          | none => simp [hl] at h
          | some blk =>
            rcases blk with ⟨l, e, md⟩ | ⟨es, c⟩
            · simp only [hl] at h
              have := qmw hT m w hf hl h
              simp [execOp, q18 ha hx, ren, Instr.loadAt, Instr.sureAddr, this]
            · simp [hl] at h
      | _ => simp [hx] at h
  | slice t x lo hi mx =>
    simp only at h
    cases hx : evalO tm x with
    | none => simp [hx] at h
    | some u =>
      cases h1 : qc7 tm lo with
      | none => simp [hx, h1] at h
      | some l =>
        cases h2 : qc7 tm hi with
        | none => simp [hx, h1, h2] at h
        | some hh =>
          cases h3 : qc7 tm mx with
          | none => simp [hx, h1, h2, h3] at h
          | some mm =>
            simp only [hx, h1, h2, h3] at h
            have := z0f hT m w hf h
            simp only [execOp, q18 ha hx, qc8 ha h1, qc8 ha h2, qc8 ha h3]
            rw [zK, this]; rfl
  | lookup t x k ok =>
    simp only at h
    cases hd : T.und t with
    | none => simp [hd] at h
    | some d =>
      cases d with
      | map kt et =>
        simp only [hd] at h
        cases hx : evalO tm x with
        | none => simp [hx] at h
        | some u =>
          cases u with
          | map r =>
            simp only [hx] at h
            cases hk : evalO tm k with
            | none => simp [hk] at h
            | some kv =>
              simp only [hk] at h
              cases hkx : qk5 T 50 kt kv with
              | false => simp [hkx] at h
              | true =>
                simp only [hkx, zC] at h
                obtain ⟨ty, hty⟩ := qlt hkx
                have main : ∀ es : List MapEntry, (match qbv T kt kv es 0 with
                      | none => none
                      | some (some (_, v)) => some (cond ok (.tuple #[v, .bool true]) v)
                      | some none => match T.inf et with
                        | some (_, _, z) => some (cond ok (.tuple #[z, .bool false]) z)
                        | none => none) = some v →
                    (Instr.checkKey (es.map (q8e m)).toArray.isEmpty 10000 kt (ren m kv)).run P w = .ok () w ∧
                    ((∃ pi pv, (Instr.findKey kt (ren m kv) (es.map (q8e m))).run P w = .ok (some (pi, pv)) w ∧ ren m v = if ok = true then Value.tuple #[pv, .bool true] else pv) ∨
                     (∃ z, (Instr.findKey kt (ren m kv) (es.map (q8e m))).run P w = .ok none w ∧ (zeroValue et).run P w = .ok z w ∧ ren m v = if ok = true then Value.tuple #[z, .bool false] else z)) := by
                  intro es he
                  refine ⟨qrp hT m _ 50 9950 w hkx, ?_⟩
                  cases hfx : qbv T kt kv es 0 with
                  | none => simp [hfx] at he
                  | some fr =>
                    have h2 := qeq hT m w hty hfx
                    cases fr with
                    | none =>
                      simp only [hfx] at he
                      cases hi : T.inf et with
                      | none => simp [hi] at he
                      | some y =>
                        obtain ⟨y1, y2, z⟩ := y
                        obtain ⟨hz, hzr⟩ := q9w hT m w hi
                        simp only at hz hzr
                        simp [hi] at he
                        subst he
                        refine .inr ⟨z, h2, hz, ?_⟩
                        cases ok <;> simp [ren, renL, hzr]
                    | some p =>
                      obtain ⟨pi, pv⟩ := p
                      simp [hfx] at he
                      subst he
                      refine .inl ⟨pi, ren m pv, h2, ?_⟩
                      cases ok <;> simp [ren, renL]
                cases r with
                | none =>
                  simp only at h
                  obtain ⟨h1, ⟨pi, pv, h2, h3⟩ | ⟨z, h2, h2', h3⟩⟩ := main [] h
                  · simp only [List.map_nil] at h1 h2
                    simp only [execOp, q18 ha hx, q18 ha hk, zK, Instr.lookup, q14 hT w hd, zJ, ren, zL, h1, h2, h3]
                  · simp only [List.map_nil] at h1 h2
                    simp only [execOp, q18 ha hx, q18 ha hk, zK, Instr.lookup, q14 hT w hd, zJ, ren, zL, h1, h2, h2', h3]
                | some r =>
                  simp only at h
                  cases hl : lk s.h r with
                  | none => simp [hl] at h
                  | some blk =>
                    rcases blk with x | ⟨es, c⟩
                    · simp [hl] at h
                    · simp only [hl] at h
                      have hb : w.heap[m.blk r]? = some (.map (es.map (q8e m)).toArray c) := hf.ok r _ hl
                      obtain ⟨h1, ⟨pi, pv, h2, h3⟩ | ⟨z, h2, h2', h3⟩⟩ := main es h
                      · simp only [execOp, q18 ha hx, q18 ha hk, zK, Instr.lookup, q14 hT w hd, zJ, ren, zL, q38 hb, h1, h2, h3]
                      · simp only [execOp, q18 ha hx, q18 ha hk, zK, Instr.lookup, q14 hT w hd, zJ, ren, zL, q38 hb, h1, h2, h2', h3]
          | _ => simp [hx] at h
      | _ => simp [hd] at h
  | call c =>
    obtain ⟨callee, args, ats⟩ := c
    simp only at h
    cases callee with
    | builtin b =>
      cases b with
      | len =>
        simp only at h
        cases hx : q6o tm args.toList with
        | none => simp [hx] at h
        | some vs =>
          rcases vs with _ | ⟨x, _ | ⟨y, l⟩⟩
          · simp [hx] at h
          · cases x with
            | map r =>
              obtain ⟨ats⟩ := ats
              cases ats with
              | nil => simp [hx] at h
              | cons t ts =>
                simp only [hx] at h
                have e1 := q3f ha hx
                simp only [renL] at e1
                cases hd : T.und t with
                | none => simp [hd] at h
                | some d =>
                  cases d with
                  | map kt et =>
                    simp only [hd] at h
                    simp only [execOp, zK, resolve, zL, zJ, invoke, builtin, e1]
                    cases r with
                    | none =>
                      simp at h; subst h
                      simp [Builtin.len_, q14 hT w hd, ren, goInt]
                    | some r =>
                      simp only at h
                      cases hl : lk s.h r with
                      | none => simp [hl] at h
                      | some blk =>
                        rcases blk with x | ⟨es, c⟩
                        · simp [hl] at h
                        · simp only [hl, zA] at h
                          subst h
                          have hb : w.heap[m.blk r]? = some (.map (es.map (q8e m)).toArray c) := hf.ok r _ hl
                          simp [Builtin.len_, q14 hT w hd, ren, goInt, q38 hb]
                  | _ => simp [hd] at h
            | _ => simp [hx] at h
          · simp [hx] at h
      | _ => simp at h
    | _ => simp at h
  | _ => simp at h
end
end Go.Rx
end
