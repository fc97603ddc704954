/-
  Texts of the walk: RxC RxD RxE RxF.
-/
import Derived.Laws.StructEq
import Derived.Test.YtldlchbgolpkaaaP2
set_option linter.unusedSimpArgs false
set_option linter.unusedVariables false
section
namespace Go.Rx
open Go
structure TbOk (P:Program) (T:Tb):Prop where
 und:∀ t d,T.und t=some d→P.underlying t=some d
 inf:∀ t a b z,T.inf t=some (a,b,z)→plain z=true∧∃ i,P.info? t=some i∧i.size=a∧i.bytes=b∧i.zero=some z
 fn : ∀ f g, T.fn f = some g → P.funcs[f]? = some g ∧ (g.body.isSome = true → (g.name == "runtime.NumGoroutine") = false)
 eqs:∀ t,T.eqs t=true→P.stoodInHeld t=false∧P.eqGuardType P.depth t=false
 mixed:P.follows .mixedOrders=true
theorem nth_eq {α:Type} (l:List α) (n:Nat):nth l n=l[n]?:=by
 induction l generalizing n with
 | nil=>simp [nth]
 | cons a l ih=>cases n<;>simp [nth,ih]
theorem takeX_some {l:List Value} {n:Nat} {r:List Value} (h:takeX l n=some r):r=l.take n∧n≤l.length:=by
 induction l generalizing n r with
 | nil=>cases n<;>simp_all [takeX]
 | cons v l ih =>
  cases n with
  | zero=>simp_all [takeX]
  | succ n =>
   simp only [takeX] at h
   cases hl:takeX l n with
   | none=>simp [hl] at h
   | some r' =>
    simp [hl] at h
    obtain ⟨e,hn⟩:=ih hl
    subst h
    simp [e]; exact hn
theorem seg_some {l:List Value} {off n:Nat} {r:List Value} (h:seg l off n=some r):r=(l.drop off).take n∧n≤l.length - off:=by
 have:=takeX_some h
 simpa using this
theorem seg_len {l:List Value} {off n:Nat} {r:List Value} (h:seg l off n=some r):r.length=n:=by
 obtain ⟨rfl,hn⟩:=seg_some h
 simp; omega
theorem seg_get {l:List Value} {off n:Nat} {r:List Value} (h:seg l off n=some r) {j:Nat} {v:Value} (hj:r[j]? = some v):l[off+j]? = some v:=by
 obtain ⟨rfl,hn⟩:=seg_some h
 rw [List.getElem?_take] at hj
 split at hj
 ·simpa using hj
 ·cases hj
theorem put0_some {l vs r:List Value} (h:put0 l vs=some r):vs.length≤l.length∧r=vs++l.drop vs.length:=by
 induction vs generalizing l r with
 | nil=>simp [put0] at h; simp [h]
 | cons v vs ih =>
  cases l with
  | nil=>simp [put0] at h
  | cons x l =>
   simp only [put0] at h
   cases hp:put0 l vs with
   | none=>simp [hp] at h
   | some r' =>
    simp [hp] at h
    obtain ⟨e1,e2⟩:=ih hp
    subst h
    simp [e2]; exact e1
theorem putX_some {l:List Value} {off:Nat} {vs r:List Value} (h:putX l off vs=some r):off+vs.length≤l.length∧r=l.take off++vs++l.drop (off+vs.length):=by
 induction off generalizing l r with
 | zero =>
  have h':put0 l vs=some r:=by cases l<;>simpa [putX] using h
  obtain ⟨e1,e2⟩:=put0_some h'
  simp [e2]; exact e1
 | succ n ih =>
  cases l with
  | nil=>simp [putX] at h
  | cons x l =>
   simp only [putX] at h
   cases hp:putX l n vs with
   | none=>simp [hp] at h
   | some r' =>
    simp [hp] at h
    obtain ⟨e1,e2⟩:=ih hp
    subst h
    simp only [List.length_cons,List.take_succ_cons,List.cons_append,e2]
    refine ⟨by omega,?_⟩
    have:n+1+vs.length=(n+vs.length)+1:=by omega
    rw [this,List.drop_succ_cons]
theorem allOne_mem {l:List Value} (h:allOne l=true):∀ v∈l,v.oneCell'=true:=by
 induction l with
 | nil=>simp
 | cons v l ih =>
  simp only [allOne] at h
  cases hv:v.oneCell' with
  | false=>simp [hv] at h
  | true =>
   simp [hv] at h
   intro u hu
   rcases List.mem_cons.1 hu with rfl | hu
   ·exact hv
   ·exact ih h u hu
theorem allOne_ren {m:Nm} {l:List Value} (h:allOne l=true):∀ v∈renL m l,v.oneCell'=true:=by
 intro v hv
 rw [renL_eq] at hv
 obtain ⟨u,hu,rfl⟩:=List.mem_map.1 hv
 rw [oneCell_ren]
 exact allOne_mem h u hu
mutual
theorem ren_plain (m:Nm):(v:Value)→plain v=true→ren m v=v
 | .bool _,_=>by simp [ren]
 | .int _ _,_=>by simp [ren]
 | .string _,_=>by simp [ren]
 | .pointer none,_=>by simp [ren]
 | .slice none _ _,_=>by simp [ren]
 | .map none,_=>by simp [ren]
 | .nilFunc,_=>by simp [ren]
 | .nilIface,_=>by simp [ren]
 | .agg ⟨l⟩,h=>by simp only [plain] at h; simp [ren,renL_plain m l h]
 | .tuple ⟨l⟩,h=>by simp only [plain] at h; simp [ren,renL_plain m l h]
 | .float _ _,h=>by simp [plain] at h
 | .complex _ _ _,h=>by simp [plain] at h
 | .pointer (some _),h=>by simp [plain] at h
 | .slice (some _) _ _,h=>by simp [plain] at h
 | .map (some _),h=>by simp [plain] at h
 | .chan _,h=>by simp [plain] at h
 | .func _ _ _,h=>by simp [plain] at h
 | .iface _ _,h=>by simp [plain] at h
theorem renL_plain (m:Nm):(l:List Value)→plainL l=true→renL m l=l
 | [],_=>by simp [renL]
 | v::l,h=>by
  simp only [plainL] at h
  cases hv:plain v with
  | false=>simp [hv] at h
  | true=>simp [hv] at h; simp [renL,ren_plain m v hv,renL_plain m l h]
end
theorem bytesEq_eq (a b:List UInt8):bytesEq a b=(a == b):=by
 induction a generalizing b with
 | nil=>cases b<;>simp [bytesEq]
 | cons x a ih =>
  cases b with
  | nil=>simp [bytesEq]
  | cons y b =>
   simp only [bytesEq,beq_eq,ih]
   by_cases e:x=y
   ·subst e; simp
   ·have:x.toNat≠y.toNat:=fun h=>e (UInt8.toNat_inj.1 h)
    simp [this,e]
theorem bytesLt_eq (a b:List UInt8):bytesLt a b=Op.bytesLess a b:=by
 induction a generalizing b with
 | nil=>cases b<;>simp [bytesLt,Op.bytesLess]
 | cons x a ih =>
  cases b with
  | nil=>simp [bytesLt,Op.bytesLess]
  | cons y b =>
   simp only [bytesLt,Op.bytesLess,ih,beq_eq]
   have hlt:Nat.blt x.toNat y.toNat=decide (x<y):=by
    rw [Bool.eq_iff_iff]; simp [Nat.blt_eq,UInt8.lt_iff_toNat_lt]
   rw [hlt]
   by_cases h1:x<y
   ·simp [h1]
   ·by_cases e:x=y
    ·subst e; simp
    ·have:x.toNat≠y.toNat:=fun h=>e (UInt8.toNat_inj.1 h)
     simp [h1,e,this]
section
variable {P:Program} {T:Tb} (hT:TbOk P T) (m:Nm) {tm:List Value} {a:Act} (w:World)
include hT
theorem run_und {t:TypeId} {d:TypeDesc} (h:T.und t=some d):(underlying t).run P w = .ok d w:=run_underlying (hT.und t d h) w
theorem run_size {t:TypeId} {n:Nat} (h:sizeX T t=some n):(sizeOf t).run P w = .ok n w:=by
 unfold sizeX at h
 cases hi:T.inf t with
 | none=>simp [hi] at h
 | some x =>
  obtain ⟨a,b,z⟩:=x
  simp [hi] at h
  obtain ⟨_,i,h1,h2,_,_⟩:=hT.inf t a b z hi
  simp [sizeOf,typeInfo,h1,h2,h]
theorem run_zero {t:TypeId} {x:Nat×Nat×Value} (h:T.inf t=some x):(zeroValue t).run P w = .ok x.2.2 w∧ren m x.2.2=x.2.2:=by
 obtain ⟨a,b,z⟩:=x
 obtain ⟨hp,i,h1,_,_,h4⟩:=hT.inf t a b z h
 exact ⟨by simp [zeroValue,typeInfo,h1,h4],ren_plain m z hp⟩
theorem run_isAgg {t:TypeId} {d:TypeDesc} (h:T.und t=some d):(isAgg t).run P w = .ok (isAggD d) w:=by
 unfold isAgg
 simp only [Sem.run_bind,run_und hT w h,Result.andThen_ok]
 cases d<;>rfl
theorem run_part {t:TypeId} {cs:List Value} {off:Nat} {v:Value} (h:partX T t cs off=some v) :
  (part t ⟨renL m cs⟩ off).run P w = .ok (ren m v) w:=by
 unfold partX at h
 cases hd:T.und t with
 | none=>simp [hd] at h
 | some d =>
  simp only [hd] at h
  unfold part
  simp only [Sem.run_bind,run_isAgg hT w hd,Result.andThen_ok]
  cases hag:isAggD d with
  | true =>
   simp only [hag,cond_true] at h
   cases hs:sizeX T t with
   | none=>simp [hs] at h
   | some n =>
    simp [hs] at h
    subst h
    simp only [if_true,Sem.run_bind,run_size hT w hs,Result.andThen_ok,Sem.run_pure,ren]
    simp [renL_eq,List.map_drop,List.map_take]
  | false =>
   simp only [hag,cond_false,nth_eq] at h
   simp [renL_eq,h]
theorem eqFs_ok {E:TypeId→Value→Value→Option Bool} {d:Nat} (hE:∀ t x y b w,E t x y=some b→(Op.equalIn d t (ren m x) (ren m y)).run P w = .ok b w)
  (xs ys:List Value) (fs:List Field) {b:Bool} (w:World) (h:eqFs T E xs ys fs=some b) :
  (Op.eqFields d ⟨renL m xs⟩ ⟨renL m ys⟩ fs).run P w = .ok b w:=by
 induction fs generalizing w with
 | nil=>simp [eqFs] at h; simp [Op.eqFields,h]
 | cons f fs ih =>
  simp only [eqFs] at h
  simp only [Op.eqFields]
  split at h
  ·rename_i hn
   simp only [hn,ne_eq,not_false_eq_true,if_true]
   cases h1:partX T f.type xs f.offset with
   | none=>simp [h1] at h
   | some x =>
    simp only [h1] at h
    cases h2:partX T f.type ys f.offset with
    | none=>simp [h2] at h
    | some y =>
     simp only [h2] at h
     cases h3:E f.type x y with
     | none=>simp [h3] at h
     | some r =>
      simp only [Sem.run_bind,run_part hT m w h1,Result.andThen_ok,run_part hT m w h2,hE _ _ _ _ w h3]
      cases r with
      | false=>simp [h3] at h; simp [h]
      | true=>simp only [h3] at h; simpa using ih w h
  ·rename_i hn
   simp only [hn,if_false]
   exact ih w h
theorem eqv_ok (d k:Nat) {t:TypeId} {x y:Value} {b:Bool} (w:World) (h:eqv T d t x y=some b) :
  (Op.equalIn (d+k) t (ren m x) (ren m y)).run P w = .ok b w:=by
 induction d generalizing t x y b w with
 | zero=>simp [eqv] at h
 | succ d ih =>
  have hsucc:d+1+k=(d+k)+1:=by omega
  rw [hsucc]
  simp only [eqv] at h
  cases hd:T.und t with
  | none=>simp [hd] at h
  | some ty =>
   have hu:=run_und hT w hd
   cases ty with
   | bool =>
    simp only [hd] at h
    cases x<;>cases y<;>simp at h
    subst h
    simp [Op.equalIn,hu,ren]
   | int kk =>
    simp only [hd] at h
    cases x<;>cases y<;>simp at h
    obtain ⟨rfl,h⟩:=h
    simp [Op.equalIn,hu,ren,h]
   | string =>
    simp only [hd] at h
    cases x<;>cases y<;>simp at h
    subst h
    rename_i s1 s2
    simp only [Op.equalIn,Sem.run_bind,hu,ren,Result.andThen_ok,Sem.run_pure,bytesEq_eq]
    rw [beq_toListBytes,ByteArray.toList_eq,ByteArray.toList_eq]
   | pointer e =>
    simp only [hd] at h
    cases x<;>cases y<;>try simp at h
    rename_i p q
    cases p<;>cases q<;>simp at h<;>subst h<;>simp [Op.equalIn,hu,ren]
   | slice e =>
    simp only [hd] at h
    cases x<;>cases y<;>try simp at h
    ·rename_i p _ _ q _ _
     cases p<;>cases q<;>simp at h<;>subst h<;>simp [Op.equalIn,hu,ren]
    ·rename_i p q _ _
     cases p<;>cases q<;>simp at h<;>subst h<;>simp [Op.equalIn,hu,ren]
   | map e e' =>
    simp only [hd] at h
    cases x<;>cases y<;>try simp at h
    rename_i p q
    cases p<;>cases q<;>simp at h<;>subst h<;>simp [Op.equalIn,hu,ren]
   | struct fs =>
    simp only [hd] at h
    cases x<;>cases y<;>simp at h
    rename_i xs ys
    obtain ⟨xs⟩:=xs
    obtain ⟨ys⟩:=ys
    cases he:T.eqs t with
    | false=>simp [he] at h
    | true =>
     simp only [he,cond_true] at h
     have hund:=hT.und t _ hd
     have hfo:P.fieldsOf t=fs:=by simp [Program.fieldsOf,hund]
     simp only [ren,renA_mk]
     rw [run_equalIn_struct w (d+k) t _ _ (by rw [hfo]; exact hund) (hT.eqs t he).1,hfo]
     exact eqFs_ok hT m (fun t x y b w hh=>ih w hh) xs ys fs.toList w h
   | _=>simp [hd] at h
end
end Go.Rx
end
section
namespace Go.Rx
open Go
theorem evalO_ok {m:Nm} {tm:List Value} {a:Act} (ha:a.tmps=⟨renL m tm⟩) {x:Operand} {v:Value} (h:evalO tm x=some v):a.eval x=ren m v:=by
 cases x with
 | tmp t =>
  simp only [evalO,nth_eq] at h
  simp [Act.eval,ha,renL_eq,h]
 | const c =>
  simp only [evalO] at h
  cases hp:plain c with
  | false=>simp [hp] at h
  | true=>simp [hp] at h; subst h; simp [Act.eval,ren_plain m c hp]
 | func f=>simp [evalO] at h; subst h; simp [Act.eval,ren,renL]
 | global g=>simp [evalO] at h
theorem evalL_ok {m:Nm} {tm:List Value} {a:Act} (ha:a.tmps=⟨renL m tm⟩) {l:List Operand} {vs:List Value} (h:evalL tm l=some vs):l.map a.eval=renL m vs:=by
 induction l generalizing vs with
 | nil=>simp [evalL] at h; subst h; simp [renL]
 | cons x l ih =>
  simp only [evalL] at h
  cases hx:evalO tm x with
  | none=>simp [hx] at h
  | some v =>
   cases hl:evalL tm l with
   | none=>simp [hx,hl] at h
   | some r=>simp [hx,hl] at h; subst h; simp [renL,evalO_ok ha hx,ih hl]
theorem evalA_ok {m:Nm} {tm:List Value} {a:Act} (ha:a.tmps=⟨renL m tm⟩) {l:Array Operand} {vs:List Value} (h:evalL tm l.toList=some vs):l.map a.eval=⟨renL m vs⟩:=by
 rw [← evalL_ok ha h]
 cases l; simp
theorem evalP_ok {m:Nm} {tm:List Value} {a:Act} (ha:a.tmps=⟨renL m tm⟩) {l:List (Nat×Operand)} {vs:List (Nat×Value)} (h:evalP tm l=some vs) :
  l.map (fun p=>(p.1,a.eval p.2))=vs.map (fun p=>(p.1,ren m p.2)):=by
 induction l generalizing vs with
 | nil=>simp [evalP] at h; subst h; simp
 | cons x l ih =>
  obtain ⟨i,x⟩:=x
  simp only [evalP] at h
  cases hx:evalO tm x with
  | none=>simp [hx] at h
  | some v =>
   cases hl:evalP tm l with
   | none=>simp [hx,hl] at h
   | some r=>simp [hx,hl] at h; subst h; simp [evalO_ok ha hx,ih hl]
theorem evalM_ok {m:Nm} {tm:List Value} {a:Act} (ha:a.tmps=⟨renL m tm⟩) {x:Option Operand} {v:Option Value} (h:evalM tm x=some v):x.map a.eval=v.map (ren m):=by
 cases x with
 | none=>simp [evalM] at h; subst h; rfl
 | some x =>
  simp only [evalM] at h
  cases hx:evalO tm x with
  | none=>simp [hx] at h
  | some u=>simp [hx] at h; subst h; simp [evalO_ok ha hx]
theorem eqGuard_free (op : BinOp) (t : TypeId) (x y : Operand) (u v : Value) (h1 : ∀ a b, ¬ (u = .agg a ∧ v = .agg b)) (h2 : ¬ (u = .nilIface ∧ v = .nilIface)) : eqGuard op t x y u v = pure () := by
  cases op <;> simp only [eqGuard] <;> first
    | rfl
    | (simp only [Bool.not_true, Bool.false_eq_true, if_false]
       split
       · simp_all
       · simp_all
       · rfl)
theorem ren_agg {m:Nm} {v:Value} {c:Array Value} (h:ren m v = .agg c):∃ d,v = .agg d:=by
 cases v with
 | pointer a=>cases a<;>simp [ren] at h
 | slice a n c=>cases a<;>simp [ren] at h
 | map r=>cases r<;>simp [ren] at h
 | chan r=>cases r<;>simp [ren] at h
 | agg d=>exact ⟨d,rfl⟩
 | _=>simp [ren] at h
theorem ren_nilIface {m:Nm} {v:Value} (h:ren m v = .nilIface):v = .nilIface:=by
 cases v with
 | pointer a=>cases a<;>simp [ren] at h
 | slice a n c=>cases a<;>simp [ren] at h
 | map r=>cases r<;>simp [ren] at h
 | chan r=>cases r<;>simp [ren] at h
 | nilIface=>rfl
 | _=>simp [ren] at h
theorem foldSet (off:Nat):∀ (vs:List Value) (k:Nat) (cells:List Value),off+k+vs.length≤cells.length →
  (vs.zipIdx k).foldl (fun (cs:Array Value) (p:Value×Nat)=>cs.setIfInBounds (off+p.2) p.1) ⟨cells⟩=⟨cells.take (off+k)++vs++cells.drop (off+k+vs.length)⟩
 | [],k,cells,_=>by simp
 | v::vs,k,cells,h=>by
  simp only [List.length_cons] at h
  simp only [List.zipIdx_cons,List.foldl_cons,List.setIfInBounds_toArray]
  rw [foldSet off vs (k+1) (cells.set (off+k) v) (by simp; omega)]
  congr 1
  have e1:(cells.set (off+k) v).take (off+(k+1))=cells.take (off+k)++[v]:=by
   rw [show off+(k+1)=off+k+1 by omega,List.take_set,List.take_succ_eq_append_getElem (by omega)]
   rw [List.set_append_right _ _ (by simp; omega)]
   simp [Nat.min_eq_left (show off+k≤cells.length by omega)]
  have e2:(cells.set (off+k) v).drop (off+(k+1)+vs.length)=cells.drop (off+k+(v::vs).length):=by
   rw [List.drop_set_of_lt (by omega)]
   congr 1
   simp; omega
  rw [e1,e2]
  simp
theorem fill_ok (m:Nm) (place:Nat→Option (Nat×Nat)):∀ (ps:List (Nat×Value)) (cells r:List Value),fillX place cells ps=some r →
  Instr.fill place ⟨renL m cells⟩ (ps.map fun p=>(p.1,ren m p.2))=some ⟨renL m r⟩
 | [],cells,r,h=>by simp [fillX] at h; simp [Instr.fill,h]
 | (i,v)::ps,cells,r,h=>by
  simp only [fillX] at h
  cases hp:place i with
  | none=>simp [hp] at h
  | some x =>
   obtain ⟨off,size⟩:=x
   simp only [hp,beq_eq] at h
   by_cases hs:v.cells.toList.length=size
   ·simp only [hs,decide_true,cond_true] at h
    cases hq:putX cells off v.cells.toList with
    | none=>simp [hq] at h
    | some c =>
     simp only [hq] at h
     obtain ⟨h1,h2⟩:=putX_some hq
     have hsz:v.cells.size=size:=by simpa using hs
     simp only [List.map_cons,Instr.fill,hp,cells_ren,size_renA,hsz]
     have hno:(decide (size≠size) || decide (off+size > (⟨renL m cells⟩:Array Value).size))=false:=by
      simp; simp [hsz] at h1; omega
     rw [hno]
     simp only [Bool.false_eq_true,if_false]
     have hfold:((renA m v.cells).zipIdx.foldl (fun (cs:Array Value) (p:Value×Nat)=>cs.setIfInBounds (off+p.2) p.1) ⟨renL m cells⟩)=⟨renL m c⟩:=by
      rw [← Array.foldl_toList,Array.toList_zipIdx,toList_renA,foldSet off _ 0 _ (by simp; simpa using h1)]
      rw [h2]
      simp [renL_eq,List.map_drop,List.map_take]
     exact (congrArg (fun z=>Instr.fill place z (ps.map fun p=>(p.1,ren m p.2))) hfold).trans (fill_ok m place ps c r h)
   ·simp only [hs,decide_false,cond_false] at h; cases h
theorem eqv_shape {T:Tb} {d:Nat} {t:TypeId} {x y:Value} {r:Bool} (h:eqv T d t x y=some r) :
  (∃ a b,x = .bool a∧y = .bool b)∨(∃ k a k' b,x = .int k a∧y = .int k' b)∨(∃ a b,x = .string a∧y = .string b)∨(∃ a b,x = .pointer a∧y = .pointer b) ∨
  (∃ a n c b n' c',x = .slice a n c∧y = .slice b n' c')∨(∃ a b,x = .map a∧y = .map b)∨(∃ a b,x = .agg a∧y = .agg b)∨(∃ r n c,x = .chan (some r)∧y = .slice none n c):=by
 cases d with
 | zero=>simp [eqv] at h
 | succ d =>
  simp only [eqv] at h
  cases hd:T.und t with
  | none=>simp [hd] at h
  | some ty =>
   cases ty<;>simp only [hd] at h<;>first
    | (simp at h; done)
    | (cases x<;>cases y<;>first | (simp at h; done) | (simp; done) | (rename_i p q _ _; cases p<;>cases q<;>simp at h ⊢))
section
variable {P:Program} {T:Tb} (hT:TbOk P T) (m:Nm) (w:World)
include hT
theorem guard_ok (op:BinOp) {t:TypeId} (ox oy:Operand) {x y:Value} (h:guardX T t x y=true):(eqGuard op t ox oy (ren m x) (ren m y)).run P w = .ok () w:=by
 by_cases ha:∃ c d,x = .agg c∧y = .agg d
 ·obtain ⟨c,d,rfl,rfl⟩:=ha
  simp only [guardX] at h
  simp only [ren]
  exact run_eqGuard_agg w op t ox oy _ _ (hT.eqs t h).2
 ·rw [eqGuard_free op t ox oy]
  ·rfl
  ·rintro a b ⟨h1,h2⟩
   obtain ⟨c,rfl⟩:=ren_agg h1
   obtain ⟨d,rfl⟩:=ren_agg h2
   exact ha ⟨c,d,rfl,rfl⟩
  ·rintro ⟨h1,h2⟩
   rw [ren_nilIface h1,ren_nilIface h2] at h
   simp [guardX] at h
theorem equal_ok {t:TypeId} {x y:Value} {b:Bool} (h:eqv T 50 t x y=some b):(Op.equal t (ren m x) (ren m y)).run P w = .ok b w :=
 eqv_ok hT m 50 9950 w h
theorem bin_ok (op:BinOp) {t:TypeId} (ox oy:Operand) {x y v:Value} (h:binX T op t x y=some v) :
  (do eqGuard op t ox oy (ren m x) (ren m y); binOp op t (ren m x) (ren m y):Sem Value).run P w = .ok (ren m v) w:=by
 by_cases hi:∃ k a k' b,x = .int k a∧y = .int k' b
 ·obtain ⟨k,a,k',b,rfl,rfl⟩:=hi
  simp only [binX] at h
  simp only [ren,eqGuard_at_int,Sem.run_bind,Sem.run_pure,Result.andThen_ok]
  by_cases hk:k=k'
  ·subst hk
   cases op<;>simp [intX] at h<;>first
    | (subst h; simp [binOp,Op.intArith,Op.intBits,Op.intCmp,ren]; done)
    | (obtain ⟨h1,rfl⟩:=h; simp [binOp,Op.intDiv,Op.shift,ren,h1]; done)
    | (obtain ⟨h1,rfl⟩:=h; simp [binOp,Op.shift,ren]; omega)
  ·cases op<;>simp [intX,hk] at h<;>first
    | (obtain ⟨h1,rfl⟩:=h; simp [binOp,Op.shift,ren]; omega)
 ·by_cases hs:∃ a b,x = .string a∧y = .string b
  ·obtain ⟨a,b,rfl,rfl⟩:=hs
   simp only [binX] at h
   simp only [ren,eqGuard_at_string,Sem.run_bind,Sem.run_pure,Result.andThen_ok]
   have e1:a.toList=a.data.toList:=ByteArray.toList_eq a
   have e2:b.toList=b.data.toList:=ByteArray.toList_eq b
   cases op<;>simp [strX] at h<;>first
    | (subst h; simp [binOp,Op.stringOp,ren,e1,e2,bytesEq_eq,bytesLt_eq]; done)
    | skip
   obtain ⟨h1,rfl⟩:=h
   have h2:¬ ((a.size+b.size:Nat):Int) > 9223372036854775807:=by
    have ea:a.size=a.data.size:=rfl
    have eb:b.size=b.data.size:=rfl
    rw [ea,eb]; omega
   simp only [binOp,Op.stringOp,IntKind.max_i64,if_neg h2,Sem.run_pure,ren]
   have e3:a++b=⟨(a.data.toList++b.data.toList).toArray⟩:=by
    apply ByteArray.ext
    simp
   rw [e3]
  ·have hb:(op = .eql∨op = .neq)∧guardX T t x y=true∧∃ r,eqv T 50 t x y=some r∧v = .bool (if op = .eql then r else !r):=by
    unfold binX at h
    split at h
    ·exact absurd ⟨_,_,_,_,rfl,rfl⟩ hi
    ·exact absurd ⟨_,_,rfl,rfl⟩ hs
    ·cases op<;>simp at h
     ·cases hg:guardX T t x y with
      | false=>simp [hg] at h
      | true =>
       cases he:eqv T 50 t x y with
       | none=>simp [hg,he] at h
       | some r=>simp [hg,he] at h; subst h; simp
     ·cases hg:guardX T t x y with
      | false=>simp [hg] at h
      | true =>
       cases he:eqv T 50 t x y with
       | none=>simp [hg,he] at h
       | some r=>simp [hg,he] at h; subst h; simp
   obtain ⟨hop,hg,r,he,rfl⟩:=hb
   have hq:=equal_ok hT m w he
   simp only [Sem.run_bind,guard_ok hT m w op ox oy hg,Result.andThen_ok]
   have hsh:=eqv_shape he
   rcases hop with rfl | rfl
   ·have key:binOp .eql t (ren m x) (ren m y)=(do pure (.bool (← Op.equal t (ren m x) (ren m y))):Sem Value):=by
     rcases hsh with ⟨a,b,rfl,rfl⟩ | ⟨k,a,k',b,rfl,rfl⟩ | ⟨a,b,rfl,rfl⟩ | ⟨a,b,rfl,rfl⟩ | ⟨a,n,c,b,n',c',rfl,rfl⟩ | ⟨a,b,rfl,rfl⟩ | ⟨a,b,rfl,rfl⟩ | ⟨r,n,c,rfl,rfl⟩
     ·simp [ren,binOp]
     ·exact absurd ⟨_,_,_,_,rfl,rfl⟩ hi
     ·exact absurd ⟨_,_,rfl,rfl⟩ hs
     ·cases a<;>cases b<;>simp [ren,binOp]
     ·cases a<;>cases b<;>simp [ren,binOp]
     ·cases a<;>cases b<;>simp [ren,binOp]
     ·simp [ren,binOp]
     ·simp [ren,binOp]
    rw [key]
    simp [hq,ren]
   ·have key:binOp .neq t (ren m x) (ren m y)=(do pure (.bool (!(← Op.equal t (ren m x) (ren m y)))):Sem Value):=by
     rcases hsh with ⟨a,b,rfl,rfl⟩ | ⟨k,a,k',b,rfl,rfl⟩ | ⟨a,b,rfl,rfl⟩ | ⟨a,b,rfl,rfl⟩ | ⟨a,n,c,b,n',c',rfl,rfl⟩ | ⟨a,b,rfl,rfl⟩ | ⟨a,b,rfl,rfl⟩ | ⟨r,n,c,rfl,rfl⟩
     ·simp [ren,binOp]
     ·exact absurd ⟨_,_,_,_,rfl,rfl⟩ hi
     ·exact absurd ⟨_,_,rfl,rfl⟩ hs
     ·cases a<;>cases b<;>simp [ren,binOp]
     ·cases a<;>cases b<;>simp [ren,binOp]
     ·cases a<;>cases b<;>simp [ren,binOp]
     ·simp [ren,binOp]
     ·simp [ren,binOp]
    rw [key]
    simp [hq,ren]
omit hT in
theorem un_ok {op:UnOp} {x v:Value} (h:unX op x=some v):(Op.unary op (ren m x)).run P w = .ok (ren m v) w:=by
 cases op<;>cases x<;>simp [unX] at h<;>subst h<;>simp [Op.unary,ren,Op.intArith,Op.intBits]
theorem conv_ok {src dst:TypeId} {x v:Value} (h:convX T src dst x=some v):(convert src dst (ren m x)).run P w = .ok (ren m v) w:=by
 unfold convX at h
 cases h1:T.und src with
 | none=>simp [h1] at h
 | some d1 =>
  cases h2:T.und dst with
  | none=>simp [h1,h2] at h
  | some d2 =>
   simp only [h1,h2] at h
   unfold convert
   simp only [Sem.run_bind,run_und hT w h1,run_und hT w h2,Result.andThen_ok]
   cases d2<;>cases x<;>simp at h<;>subst h<;>cases d1<;>simp [ren,Conv.intToInt]
theorem mapM_sizes (fs:List Field) (hs:sizesX T fs=true):(fs.mapM (fun f=>do pure (f.offset,← sizeOf f.type):Field→Sem (Nat×Nat))).run P w = .ok (fs.map fun f=>(f.offset,(sizeX T f.type).getD 0)) w:=by
 induction fs with
 | nil=>simp
 | cons f fs ih =>
  simp only [sizesX] at hs
  cases hf:sizeX T f.type with
  | none=>simp [hf] at hs
  | some n =>
   simp only [hf] at hs
   have ih':=ih hs
   simp only [List.mapM_cons,Sem.run_bind,run_size hT w hf,Result.andThen_ok,Sem.run_pure,ih',List.map_cons,hf,Option.getD_some]
omit hT in
theorem sizesX_get {fs:List Field} (hs:sizesX T fs=true) {i:Nat} {f:Field} (hf:fs[i]? = some f):∃ n,sizeX T f.type=some n:=by
 induction fs generalizing i with
 | nil=>simp at hf
 | cons g fs ih =>
  simp only [sizesX] at hs
  cases hg:sizeX T g.type with
  | none=>simp [hg] at hs
  | some n =>
   simp only [hg] at hs
   cases i with
   | zero=>simp at hf; subst hf; exact ⟨n,hg⟩
   | succ i=>exact ih hs (by simpa using hf)
theorem build_ok {t:TypeId} {ps:List (Nat×Value)} {v:Value} (h:buildX T t ps=some v) :
  (Instr.build t (ps.map fun p=>(p.1,ren m p.2)).toArray).run P w = .ok (ren m v) w:=by
 unfold buildX at h
 cases hi:T.inf t with
 | none=>simp [hi] at h
 | some x =>
  obtain ⟨a,b,z⟩:=x
  obtain ⟨hz,hzr⟩:=run_zero hT m w hi
  simp only at hz hzr
  have hzc:z.cells=⟨renL m z.cells.toList⟩:=by
   conv=>lhs; rw [← hzr,cells_ren]
   cases z.cells; simp
  simp only [hi] at h
  unfold Instr.build
  simp only [Sem.run_bind,hz,Result.andThen_ok]
  cases hd:T.und t with
  | none=>simp [hd] at h
  | some d =>
   simp only [run_und hT w hd,Result.andThen_ok]
   cases d with
   | struct fs =>
    simp only [hd] at h
    cases hs:sizesX T fs.toList with
    | false=>simp [hs] at h
    | true =>
     simp only [hs,cond_true] at h
     cases hf:fillX (fieldPl T fs.toList) z.cells.toList ps with
     | none=>simp [hf] at h
     | some cs =>
      simp [hf] at h
      subst h
      have hm:=mapM_sizes hT w fs.toList hs
      have hm':(fs.mapM (fun f=>do pure (f.offset,← sizeOf f.type):Field→Sem (Nat×Nat))).run P w = .ok ⟨fs.toList.map fun f=>(f.offset,(sizeX T f.type).getD 0)⟩ w:=by
       rw [Array.mapM_eq_mapM_toList]
       simp only [Sem.run_map,hm,Result.andThen_ok]
      have hpl:(fun i=>(⟨fs.toList.map fun f=>(f.offset,(sizeX T f.type).getD 0)⟩:Array (Nat×Nat))[i]?)=fieldPl T fs.toList:=by
       funext i
       simp only [fieldPl,nth_eq]
       cases hfi:fs.toList[i]? with
       | none=>simp at hfi; simp [hfi]
       | some f =>
        obtain ⟨n,hn⟩:=sizesX_get hs hfi
        have:fs[i]? = some f:=by simpa using hfi
        simp [this,hn]
      have hfill:=fill_ok m (fieldPl T fs.toList) ps z.cells.toList cs hf
      simp only [Sem.run_bind,hm',Result.andThen_ok,hpl]
      rw [hzc]
      simp only [hfill,Sem.run_pure,ren,renA_mk]
   | array n e =>
    simp only [hd] at h
    cases hs:sizeX T e with
    | none=>simp [hs] at h
    | some k =>
     simp only [hs] at h
     cases hf:fillX (fun i=>some (i*k,k)) z.cells.toList ps with
     | none=>simp [hf] at h
     | some cs =>
      simp [hf] at h
      subst h
      have hfill:=fill_ok m (fun i=>some (i*k,k)) ps z.cells.toList cs hf
      simp only [Sem.run_bind,run_size hT w hs,Result.andThen_ok]
      rw [hzc]
      simp only [hfill,Sem.run_pure,ren,renA_mk]
   | _=>simp [hd] at h
omit hT in
theorem add_at (b o n:Nat):(⟨b,o,none⟩:Addr).add n=⟨b,o+n,none⟩:=Addr.add_lit b o n
theorem fieldAt_ok {st:TypeId} {x v:Value} {f:Nat} (h:fieldAtX T st x f=some v):(Instr.fieldAt st (ren m x) f).run P w = .ok (ren m v) w:=by
 unfold fieldAtX at h
 cases hd:T.und st with
 | none=>simp [hd] at h
 | some d =>
  cases d with
  | struct fs =>
   simp only [hd,nth_eq] at h
   cases hf:fs.toList[f]? with
   | none=>simp at hf; simp [hf] at h
   | some fd =>
    have hf':fs[f]? = some fd:=by simpa using hf
    simp only [hf] at h
    cases x with
    | pointer p =>
     cases p with
     | none=>simp at h
     | some a =>
      simp only at h
      cases hs:sizeX T fd.type with
      | none=>simp [hs] at h
      | some n =>
       cases n with
       | zero=>simp [hs] at h
       | succ n =>
        simp [hs] at h
        subst h
        simp [Instr.fieldAt,run_und hT w hd,hf',ren,Instr.sureAddr,fieldPlace,run_size hT w hs,add_at,Nat.add_assoc]
    | _=>simp at h
  | _=>simp [hd] at h
theorem field_ok {st:TypeId} {x v:Value} {f:Nat} (h:fieldX T st x f=some v):(Instr.field st (ren m x) f).run P w = .ok (ren m v) w:=by
 unfold fieldX at h
 cases hd:T.und st with
 | none=>simp [hd] at h
 | some d =>
  cases d with
  | struct fs =>
   simp only [hd,nth_eq] at h
   cases hf:fs.toList[f]? with
   | none=>simp at hf; simp [hf] at h
   | some fd =>
    have hf':fs[f]? = some fd:=by simpa using hf
    simp only [hf] at h
    cases x with
    | agg cs =>
     obtain ⟨cs⟩:=cs
     simp only at h
     simp [Instr.field,run_und hT w hd,hf',ren,asAgg,run_part hT m w h]
    | _=>simp at h
  | _=>simp [hd] at h
omit hT in
theorem inR_true {i:Int} {n:Nat} (h:inR i n=true):0≤i∧i<n:=by
 cases i with
 | ofNat k=>simp only [inR,Nat.blt_eq] at h; exact ⟨Int.natCast_nonneg k,Int.ofNat_lt.2 h⟩
 | negSucc k=>simp [inR] at h
theorem indexAt_ok {t:TypeId} {x ix v:Value} (h:indexAtX T t x ix=some v):(Instr.indexAt t (ren m x) (ren m ix)).run P w = .ok (ren m v) w:=by
 unfold indexAtX at h
 cases ix with
 | int k i =>
  simp only at h
  cases hd:T.und t with
  | none=>simp [hd] at h
  | some d =>
   cases d with
   | array n e =>
    simp only [hd] at h
    cases x with
    | pointer p =>
     cases p with
     | none=>simp at h
     | some a =>
      simp only at h
      cases hr:inR i n with
      | false=>simp [hr] at h
      | true =>
       cases hs:sizeX T e with
       | none=>simp [hr,hs] at h
       | some sz =>
        simp [hr,hs] at h
        subst h
        have:=inR_true hr
        simp [Instr.indexAt,asIntOf,ren,run_und hT w hd,Instr.sureAddr,this,run_size hT w hs,add_at,Nat.add_assoc]
    | _=>simp at h
   | slice e =>
    simp only [hd] at h
    cases x with
    | slice p n c =>
     cases p with
     | none=>simp at h
     | some a =>
      simp only at h
      cases hr:inR i n with
      | false=>simp [hr] at h
      | true =>
       cases hs:sizeX T e with
       | none=>simp [hr,hs] at h
       | some sz =>
        simp [hr,hs] at h
        subst h
        have:=inR_true hr
        simp [Instr.indexAt,asIntOf,ren,run_und hT w hd,this,run_size hT w hs,add_at,Nat.add_assoc]
    | _=>simp at h
   | _=>simp [hd] at h
 | _=>simp at h
theorem index_ok {t:TypeId} {x ix v:Value} (h:indexX T t x ix=some v):(Instr.index t (ren m x) (ren m ix)).run P w = .ok (ren m v) w:=by
 unfold indexX at h
 cases ix with
 | int k i =>
  simp only at h
  cases hd:T.und t with
  | none=>simp [hd] at h
  | some d =>
   cases d with
   | array n e =>
    simp only [hd] at h
    cases x with
    | agg cs =>
     obtain ⟨cs⟩:=cs
     simp only at h
     cases hr:inR i n with
     | false=>simp [hr] at h
     | true =>
      cases hs:sizeX T e with
      | none=>simp [hr,hs] at h
      | some sz =>
       simp only [hr,hs,cond_true] at h
       have:=inR_true hr
       simp [Instr.index,asIntOf,ren,run_und hT w hd,this,run_size hT w hs,run_part hT m w h]
    | _=>simp at h
   | string =>
    simp only [hd] at h
    cases x with
    | string s =>
     simp only [nth_eq] at h
     cases hr:inR i s.data.toList.length with
     | false=>simp only [hr,cond_false] at h; cases h
     | true =>
      simp only [hr,cond_true] at h
      have hi:=inR_true hr
      cases hb:s.data.toList[i.toNat]? with
      | none=>simp [hb] at h
      | some b =>
       simp [hb] at h
       subst h
       have hb':s[i.toNat]? = some b:=by
        have:s.data[i.toNat]? = some b:=by simpa using hb
        obtain ⟨hlt,e⟩:=Array.getElem?_eq_some_iff.1 this
        have hlt':i.toNat<s.size:=hlt
        rw [getElem?_pos s i.toNat hlt']
        exact congrArg some e
       simp [Instr.index,asIntOf,ren,run_und hT w hd,hi.1,hb']
    | _=>simp at h
   | _=>simp [hd] at h
 | _=>simp at h
omit hT in
theorem extract_ok {x v:Value} {i:Nat} (h:extractX x i=some v):(Instr.extract (ren m x) i).run P w = .ok (ren m v) w:=by
 cases x with
 | tuple vs =>
  obtain ⟨vs⟩:=vs
  simp only [extractX,nth_eq] at h
  simp [Instr.extract,ren,renL_eq,h]
 | _=>simp [extractX] at h
end
end Go.Rx
end
section
namespace Go.Rx
open Go
section
variable {P:Program} {T:Tb} (hT:TbOk P T) (m:Nm) (w:World)
include hT
theorem len_ok {t ty:TypeId} {ts:List TypeId} {x v:Value} (h:lenX T t x=some v):(Builtin.len_ (t::ts).toArray ty #[ren m x]).run P w = .ok (ren m v) w:=by
 unfold lenX at h
 cases hd:T.und t with
 | none=>simp [hd] at h
 | some d =>
  simp only [hd] at h
  have hu:=run_und hT w hd
  cases d with
  | string =>
   cases x<;>simp at h
   subst h
   rename_i s
   simp only [Builtin.len_,List.getElem?_toArray,List.getElem?_cons_zero,Sem.run_bind,hu,Result.andThen_ok,ren,goInt,Sem.run_pure]
  | slice e =>
   cases x with
   | slice a _ _ =>
    simp only [Option.some.injEq] at h
    subst h
    cases a<;>simp [Builtin.len_,hu,ren,goInt]
   | chan r =>
    cases r with
    | none=>simp at h
    | some r =>
     simp only [Option.some.injEq] at h
     subst h
     simp [Builtin.len_,hu,ren,goInt]
   | _=>simp at h
  | array n e =>
   simp at h
   subst h
   simp [Builtin.len_,hu,ren,goInt]
  | _=>simp at h
theorem cap_ok {t ty:TypeId} {ts:List TypeId} {x v:Value} (h:capX T t x=some v):(Builtin.cap_ (t::ts).toArray ty #[ren m x]).run P w = .ok (ren m v) w:=by
 unfold capX at h
 cases hd:T.und t with
 | none=>simp [hd] at h
 | some d =>
  simp only [hd] at h
  have hu:=run_und hT w hd
  cases d with
  | slice e =>
   cases x with
   | slice a _ c =>
    cases a with
    | none =>
     simp only [Option.some.injEq] at h
     subst h
     simp [Builtin.cap_,hu,ren,goInt]
    | some a =>
     simp only at h
     cases hc:Nat.blt c capBase with
     | false=>simp [hc] at h
     | true =>
      simp only [hc,cond_true,Option.some.injEq] at h
      subst h
      have hc':c<capBase:=by simpa [Nat.blt_eq] using hc
      simp [Builtin.cap_,hu,ren,goInt,capOf,hc']
   | chan r =>
    cases r with
    | none=>simp at h
    | some r =>
     simp only [Option.some.injEq] at h
     subst h
     simp [Builtin.cap_,hu,ren,goInt]
   | _=>simp at h
  | _=>simp at h
omit hT in
theorem max_ok {x v:Value} {l:List Value} (h:foldX max2X x l=some v):((renL m l).foldlM Builtin.max2 (ren m x)).run P w = .ok (ren m v) w:=by
 induction l generalizing x with
 | nil=>simp [foldX] at h; simp [renL,h]
 | cons y l ih =>
  simp only [foldX] at h
  cases hxy:max2X x y with
  | none=>simp [hxy] at h
  | some z =>
   simp only [hxy] at h
   have:(Builtin.max2 (ren m x) (ren m y)).run P w = .ok (ren m z) w:=by
    cases x<;>cases y<;>simp [max2X] at hxy
    subst hxy
    simp [ren,Builtin.max2]
   simp only [renL,List.foldlM_cons,Sem.run_bind,this,Result.andThen_ok]
   exact ih h
omit hT in
theorem min_ok {x v:Value} {l:List Value} (h:foldX min2X x l=some v):((renL m l).foldlM Builtin.min2 (ren m x)).run P w = .ok (ren m v) w:=by
 induction l generalizing x with
 | nil=>simp [foldX] at h; simp [renL,h]
 | cons y l ih =>
  simp only [foldX] at h
  cases hxy:min2X x y with
  | none=>simp [hxy] at h
  | some z =>
   simp only [hxy] at h
   have:(Builtin.min2 (ren m x) (ren m y)).run P w = .ok (ren m z) w:=by
    cases x<;>cases y<;>simp [min2X] at hxy
    subst hxy
    simp [ren,Builtin.min2]
   simp only [renL,List.foldlM_cons,Sem.run_bind,this,Result.andThen_ok]
   exact ih h
omit hT in
theorem bound_ok {v:Value} {y n:Nat} (h:bound1 v y=some n) (Y:Nat) (hY:y≤Y) (code:BoundsCode):(Instr.sliceBound (ren m v) Y code).run P w = .ok n w∧n≤y:=by
 cases v with
 | int k i =>
  simp only [bound1] at h
  cases hr:inR i (y+1) with
  | false=>simp [hr] at h
  | true =>
   simp [hr] at h
   subst h
   have:=inR_true hr
   refine ⟨?_,by omega⟩
   have h2:0≤i∧i≤(Y:Int):=by omega
   simp [Instr.sliceBound,ren,asIntOf,h2]
 | _=>simp [bound1] at h
omit hT in
theorem bounds_ok {isS:Bool} {n c Y:Nat} {lo hi mx:Option Value} {l h M:Nat} (hb:boundsX n c lo hi mx=some (l,h,M)) (hY:c≤Y) :
  (Instr.sliceBounds isS n Y (lo.map (ren m)) (hi.map (ren m)) (mx.map (ren m))).run P w = .ok (l,h,if mx.isSome then M else Y) w∧l≤h∧(mx.isSome=true→h≤M∧M≤c)∧(mx=none→M=c∧(hi.isSome=true→h≤c)∧(hi=none→h=n)):=by
 unfold boundsX at hb
 cases mx with
 | some v =>
  simp only at hb
  cases h1:bound1 v c with
  | none=>simp [h1] at hb
  | some M' =>
   simp only [h1] at hb
   cases hi with
   | none=>simp at hb
   | some u =>
    simp only at hb
    cases h2:bound1 u M' with
    | none=>simp [h2] at hb
    | some h' =>
     simp only [h2] at hb
     have b1:=fun code=>bound_ok (P:=P) m w h1 Y hY code
     have b2:=fun code=>bound_ok (P:=P) m w h2 M' (Nat.le_refl _) code
     cases lo with
     | none =>
      simp at hb
      obtain ⟨rfl,rfl,rfl⟩:=hb
      have q1:=(b1 .index).2
      have q2:=(b2 .index).2
      refine ⟨?_,by omega,fun _=>⟨q2,q1⟩,by simp⟩
      simp [Instr.sliceBounds,(b1 _).1,(b2 _).1]
     | some x =>
      simp only at hb
      cases h3:bound1 x h' with
      | none=>simp [h3] at hb
      | some l' =>
       simp [h3] at hb
       obtain ⟨rfl,rfl,rfl⟩:=hb
       have b3:=fun code=>bound_ok (P:=P) m w h3 h' (Nat.le_refl _) code
       have q1:=(b1 .index).2
       have q2:=(b2 .index).2
       have q3:=(b3 .index).2
       refine ⟨?_,q3,fun _=>⟨q2,q1⟩,by simp⟩
       simp [Instr.sliceBounds,(b1 _).1,(b2 _).1,(b3 _).1]
 | none =>
  simp only at hb
  cases hi with
  | some u =>
   simp only at hb
   cases h2:bound1 u c with
   | none=>simp [h2] at hb
   | some h' =>
    simp only [h2] at hb
    have b2:=fun code=>bound_ok (P:=P) m w h2 Y hY code
    have q2:=(b2 .index).2
    cases lo with
    | none =>
     simp at hb
     obtain ⟨rfl,rfl,rfl⟩:=hb
     refine ⟨?_,by omega,by simp,fun _=>⟨rfl,fun _=>q2,by simp⟩⟩
     simp [Instr.sliceBounds,(b2 _).1]
    | some x =>
     simp only at hb
     cases h3:bound1 x h' with
     | none=>simp [h3] at hb
     | some l' =>
      simp [h3] at hb
      obtain ⟨rfl,rfl,rfl⟩:=hb
      have b3:=fun code=>bound_ok (P:=P) m w h3 h' (Nat.le_refl _) code
      have q3:=(b3 .index).2
      refine ⟨?_,q3,by simp,fun _=>⟨rfl,fun _=>q2,by simp⟩⟩
      simp [Instr.sliceBounds,(b2 _).1,(b3 _).1]
  | none =>
   simp only at hb
   cases lo with
   | none =>
    simp at hb
    obtain ⟨rfl,rfl,rfl⟩:=hb
    refine ⟨?_,by omega,by simp,by simp⟩
    simp [Instr.sliceBounds]
   | some x =>
    simp only at hb
    cases h3:bound1 x n with
    | none=>simp [h3] at hb
    | some l' =>
     simp [h3] at hb
     obtain ⟨rfl,rfl,rfl⟩:=hb
     have b3:=fun code=>bound_ok (P:=P) m w h3 n (Nat.le_refl _) code
     have q3:=(b3 .index).2
     refine ⟨?_,q3,by simp,by simp⟩
     simp [Instr.sliceBounds,(b3 _).1]
theorem slice_ok {t:TypeId} {x v:Value} {lo hi mx:Option Value} (h:sliceX T t x lo hi mx=some v) :
  (Instr.sliceAt t (ren m x) (lo.map (ren m)) (hi.map (ren m)) (mx.map (ren m))).run P w = .ok (ren m v) w:=by
 unfold sliceX at h
 cases hd:T.und t with
 | none=>simp [hd] at h
 | some d =>
  simp only [hd] at h
  have hu:=run_und hT w hd
  cases d with
  | string =>
   cases x with
   | string s =>
    simp only at h
    cases mx with
    | some _=>simp at h
    | none =>
     simp only at h
     cases hb:boundsX s.data.toList.length s.data.toList.length lo hi none with
     | none=>simp only [hb] at h; cases h
     | some r =>
      obtain ⟨l,hh,M⟩:=r
      simp only [hb,Option.some.injEq] at h
      subst h
      obtain ⟨h1,_,_,_⟩:=bounds_ok (P:=P) (isS:=false) m w hb (Nat.le_refl _)
      have hsz:s.size=s.data.toList.length:=rfl
      simp only [Option.map_none] at h1
      simp only [Instr.sliceAt,Sem.run_bind,hu,Result.andThen_ok,Instr.slice,ren,Option.map_none,Option.isSome_none,Bool.false_eq_true,if_false,hsz,h1,Sem.run_pure]
      have e3:s.extract l hh=⟨((s.data.toList.take hh).drop l).toArray⟩:=by
       apply ByteArray.ext
       rw [ByteArray.data_extract]
       apply Array.ext'
       simp [List.drop_take]
      rw [e3]
   | _=>simp at h
  | slice e =>
   cases x with
   | slice a n c =>
    simp only at h
    cases hc:Nat.blt c capBase with
    | false =>
     simp only [hc,cond_false] at h
     unfold emptyS at h
     cases a with
     | none=>simp at h
     | some a =>
      cases n with
      | succ n=>simp at h
      | zero =>
       simp only at h
       cases hb:boundsX 0 0 lo hi mx with
       | none=>simp [hb] at h
       | some r =>
        obtain ⟨l,hh,M⟩:=r
        simp only [hb] at h
        cases l with
        | succ l=>simp at h
        | zero =>
         cases hh with
         | succ l=>simp at h
         | zero =>
          cases M with
          | succ l=>simp at h
          | zero =>
           simp only at h
           cases hs:sizeX T e with
           | none=>simp [hs] at h
           | some sz =>
            simp only [hs,Option.some.injEq] at h
            subst h
            obtain ⟨h1,_,_,_⟩:=bounds_ok (P:=P) (isS:=true) (Y:=capOf m a.block c) m w hb (Nat.zero_le _)
            cases mx with
            | none =>
             simp only [Option.isSome_none,Bool.false_eq_true,if_false] at h1
             simp only [Instr.sliceAt,Sem.run_bind,hu,Result.andThen_ok,Instr.slice,ren,h1,run_size hT w hs,Sem.run_pure,Option.map_some,Nat.zero_mul,Nat.sub_zero,add_at,Nat.add_zero,ite_self]
            | some vm =>
             simp only [Option.isSome_some,if_true,Option.map_some] at h1
             have h0:capOf m a.block 0=0:=by simp [capOf,capBase]
             simp only [Instr.sliceAt,Sem.run_bind,hu,Result.andThen_ok,Instr.slice,ren,h1,run_size hT w hs,Sem.run_pure,Option.map_some,Nat.zero_mul,Nat.sub_zero,add_at,Nat.add_zero,ite_self,h0]
    | true =>
     simp only [hc,cond_true] at h
     have hc':c<capBase:=by simpa [Nat.blt_eq] using hc
     cases hb:boundsX n c lo hi mx with
     | none=>simp [hb] at h
     | some r =>
      obtain ⟨l,hh,M⟩:=r
      simp only [hb] at h
      cases hs:sizeX T e with
      | none=>simp [hs] at h
      | some sz =>
       simp only [hs,Option.some.injEq] at h
       subst h
       have hcap:∀ i,capOf m i c=c:=fun i=>by simp [capOf,hc']
       obtain ⟨h1,h2,h3,h4⟩:=bounds_ok (P:=P) (isS:=true) (Y:=c) m w hb (Nat.le_refl _)
       have hM:(if mx.isSome then M else c)=M:=by
        cases mx with
        | none=>simp [(h4 rfl).1]
        | some v=>simp
       rw [hM] at h1
       have hMl:M - l<capBase:=by
        cases mx with
        | none=>have:=(h4 rfl).1; omega
        | some v=>have:=(h3 rfl).2; omega
       cases a with
       | none =>
        simp only [Instr.sliceAt,Sem.run_bind,hu,Result.andThen_ok,Instr.slice,ren,h1,run_size hT w hs,Sem.run_pure,beq_eq]
        by_cases e:M=l<;>simp [e,ren]
       | some a =>
        simp only [Instr.sliceAt,Sem.run_bind,hu,Result.andThen_ok,Instr.slice,ren,hcap,h1,run_size hT w hs,Sem.run_pure,beq_eq]
        by_cases e:M=l
        ·simp [e,ren,capOf,capBase]
        ·simp [e,ren,capOf,hMl,add_at,Nat.add_assoc]
   | chan r =>
    cases r with
    | none=>simp at h
    | some r =>
     simp only at h
     cases hb:boundsX 0 0 lo hi mx with
     | none=>simp [hb] at h
     | some q =>
      obtain ⟨l,hh,M⟩:=q
      simp only [hb] at h
      cases hs:sizeX T e with
      | none=>simp [hs] at h
      | some sz =>
       simp only [hs,Option.some.injEq] at h
       subst h
       obtain ⟨h1,h2,h3,h4⟩:=bounds_ok (P:=P) (isS:=true) (Y:=0) m w hb (Nat.le_refl _)
       have hz:l=0∧hh=0∧M=0:=by
        cases mx with
        | none =>
         obtain ⟨q1,q2,q3⟩:=h4 rfl
         cases hi with
         | none=>have:=q3 rfl; omega
         | some v=>have:=q2 rfl; omega
        | some v=>have:=h3 rfl; omega
       obtain ⟨rfl,rfl,rfl⟩:=hz
       simp only [ite_self] at h1
       simp only [Instr.sliceAt,Sem.run_bind,hu,Result.andThen_ok,Instr.slice,ren,h1,run_size hT w hs,Sem.run_pure,if_true,Nat.sub_zero]
   | _=>simp at h
  | array n e =>
   cases x with
   | pointer p =>
    cases p with
    | none=>simp at h
    | some a =>
     simp only at h
     cases hb:boundsX n n lo hi mx with
     | none=>simp only [hb] at h; cases h
     | some r =>
      obtain ⟨l,hh,M⟩:=r
      simp only [hb] at h
      cases hs:sizeX T e with
      | none=>simp [hs] at h
      | some sz =>
       simp only [hs] at h
       cases hn:Nat.blt n capBase with
       | false=>simp [hn] at h
       | true =>
        simp only [hn,cond_true,Option.some.injEq] at h
        subst h
        have hn':n<capBase:=by simpa [Nat.blt_eq] using hn
        obtain ⟨h1,h2,h3,h4⟩:=bounds_ok (P:=P) (isS:=false) (Y:=n) m w hb (Nat.le_refl _)
        have hM:(if mx.isSome then M else n)=M:=by
         cases mx with
         | none=>simp [(h4 rfl).1]
         | some v=>simp
        rw [hM] at h1
        have hMl:M - l<capBase:=by
         cases mx with
         | none=>have:=(h4 rfl).1; omega
         | some v=>have:=(h3 rfl).2; omega
        simp only [Instr.sliceAt,Sem.run_bind,hu,Result.andThen_ok,Instr.sureAddr,ren,h1,run_size hT w hs,Sem.run_pure,beq_eq]
        by_cases e:M=l
        ·simp [e,capOf,capBase]
        ·simp [e,capOf,hMl,add_at,Nat.add_assoc]
   | _=>simp at h
  | _=>simp at h
theorem pure_ok {tm:List Value} {a:Act} (ha:a.tmps=⟨renL m tm⟩) (o:Oper) {v:Value} (h:pureX T tm o.op=some v):(execOp a.eval o).run P w = .ok (.value (ren m v)) w:=by
 obtain ⟨dst,op,type,pos,after,guard⟩:=o
 simp only at h
 unfold pureX at h
 cases op with
 | move x=>simp only at h; simp [execOp,evalO_ok ha h]
 | assign x=>simp only at h; simp [execOp,evalO_ok ha h]
 | pick c x y =>
  simp only at h
  cases hc:evalO tm c with
  | none=>simp [hc] at h
  | some cv =>
   cases cv with
   | bool b =>
    cases b with
    | true=>simp only [hc] at h; simp [execOp,evalO_ok ha hc,evalO_ok ha h,ren,asBool]
    | false=>simp only [hc] at h; simp [execOp,evalO_ok ha hc,evalO_ok ha h,ren,asBool]
   | _=>simp [hc] at h
 | build t ps =>
  simp only at h
  cases hp:evalP tm ps.toList with
  | none=>simp [hp] at h
  | some qs =>
   simp only [hp] at h
   have e1:(ps.map fun x=>(x.1,a.eval x.2))=(qs.map fun p=>(p.1,ren m p.2)).toArray:=by
    rw [← evalP_ok ha hp]
    cases ps; simp
   have:=build_ok hT m w h
   rw [← e1] at this
   simp only [execOp,Sem.run_bind]
   rw [this]; rfl
 | nilCheck x =>
  simp only at h
  cases hx:evalO tm x with
  | none=>simp [hx] at h
  | some u =>
   have he:=evalO_ok ha hx
   cases u with
   | pointer p =>
    cases p with
    | none=>simp [hx] at h
    | some q=>simp [hx] at h; subst h; simp [execOp,he,ren]
   | func fn x y =>
    cases fn with
    | func f=>simp [hx] at h; subst h; simp [execOp,he,ren]
    | _=>simp [hx] at h
   | _=>simp [hx] at h
 | binOp op t x y ty =>
  simp only at h
  cases hx:evalO tm x with
  | none=>simp [hx] at h
  | some u =>
   cases hy:evalO tm y with
   | none=>simp [hx,hy] at h
   | some u' =>
    simp only [hx,hy] at h
    have:=bin_ok hT m w op x y h
    simp only [execOp,evalO_ok ha hx,evalO_ok ha hy]
    rw [Sem.run_bind,this]; rfl
 | unOp op t x =>
  simp only at h
  cases hx:evalO tm x with
  | none=>simp [hx] at h
  | some u=>simp only [hx] at h; simp [execOp,evalO_ok ha hx,un_ok m w h]
 | convert s d x =>
  simp only at h
  cases hx:evalO tm x with
  | none=>simp [hx] at h
  | some u=>simp only [hx] at h; simp [execOp,evalO_ok ha hx,conv_ok hT m w h]
 | makeFunc fn first cap =>
  simp only at h
  cases hx:evalL tm first.toList with
  | none=>simp [hx] at h
  | some u =>
   cases hy:evalL tm cap.toList with
   | none=>simp [hx,hy] at h
   | some u' =>
    simp only [hx,hy,Option.some.injEq] at h
    subst h
    simp [execOp,evalA_ok ha hx,evalA_ok ha hy,Instr.makeFunc,ren]
 | slice t x lo hi mx =>
  simp only at h
  cases hx:evalO tm x with
  | none=>simp [hx] at h
  | some u =>
   cases h1:evalM tm lo with
   | none=>simp [hx,h1] at h
   | some l =>
    cases h2:evalM tm hi with
    | none=>simp [hx,h1,h2] at h
    | some hh =>
     cases h3:evalM tm mx with
     | none=>simp [hx,h1,h2,h3] at h
     | some mm =>
      simp only [hx,h1,h2,h3] at h
      have:=slice_ok hT m w h
      simp only [execOp,evalO_ok ha hx,evalM_ok ha h1,evalM_ok ha h2,evalM_ok ha h3]
      rw [Sem.run_bind,this]; rfl
 | fieldAddr t x f =>
  simp only at h
  cases hx:evalO tm x with
  | none=>simp [hx] at h
  | some u=>simp only [hx] at h; simp [execOp,evalO_ok ha hx,fieldAt_ok hT m w h]
 | field t x f =>
  simp only at h
  cases hx:evalO tm x with
  | none=>simp [hx] at h
  | some u=>simp only [hx] at h; simp [execOp,evalO_ok ha hx,field_ok hT m w h]
 | indexAddr t x i =>
  simp only at h
  cases hx:evalO tm x with
  | none=>simp [hx] at h
  | some u =>
   cases hy:evalO tm i with
   | none=>simp [hx,hy] at h
   | some u'=>simp only [hx,hy] at h; simp [execOp,evalO_ok ha hx,evalO_ok ha hy,indexAt_ok hT m w h]
 | index t x i =>
  simp only at h
  cases hx:evalO tm x with
  | none=>simp [hx] at h
  | some u =>
   cases hy:evalO tm i with
   | none=>simp [hx,hy] at h
   | some u'=>simp only [hx,hy] at h; simp [execOp,evalO_ok ha hx,evalO_ok ha hy,index_ok hT m w h]
 | extract x i =>
  simp only at h
  cases hx:evalO tm x with
  | none=>simp [hx] at h
  | some u=>simp only [hx] at h; simp [execOp,evalO_ok ha hx,extract_ok m w h]
 | call c =>
  obtain ⟨callee,args,ats⟩:=c
  simp only at h
  cases callee with
  | builtin b =>
   cases b with
   | len =>
    simp only at h
    cases hx:evalL tm args.toList with
    | none=>simp [hx] at h
    | some vs =>
     rcases vs with _ | ⟨x,_ | ⟨y,l⟩⟩
     ·simp [hx] at h
     ·obtain ⟨ats⟩:=ats
      cases ats with
      | nil=>simp [hx] at h
      | cons t ts =>
       simp only [hx] at h
       have e1:=evalA_ok ha hx
       simp only [renL] at e1
       have:=len_ok hT m w (ty:=type) (ts:=ts) h
       simp only [execOp,Sem.run_bind,resolve,Sem.run_pure,Result.andThen_ok,invoke,builtin,e1]
       rw [this]; rfl
     ·simp [hx] at h
   | cap =>
    simp only at h
    cases hx:evalL tm args.toList with
    | none=>simp [hx] at h
    | some vs =>
     rcases vs with _ | ⟨x,_ | ⟨y,l⟩⟩
     ·simp [hx] at h
     ·obtain ⟨ats⟩:=ats
      cases ats with
      | nil=>simp [hx] at h
      | cons t ts =>
       simp only [hx] at h
       have e1:=evalA_ok ha hx
       simp only [renL] at e1
       have:=cap_ok hT m w (ty:=type) (ts:=ts) h
       simp only [execOp,Sem.run_bind,resolve,Sem.run_pure,Result.andThen_ok,invoke,builtin,e1]
       rw [this]; rfl
     ·simp [hx] at h
   | max =>
    simp only at h
    cases hx:evalL tm args.toList with
    | none=>simp [hx] at h
    | some vs =>
     cases vs with
     | nil=>simp [hx] at h
     | cons x l =>
      simp only [hx] at h
      have e1:=evalA_ok ha hx
      simp only [renL] at e1
      have:=max_ok (P:=P) m w h
      simp only [execOp,Sem.run_bind,resolve,Sem.run_pure,Result.andThen_ok,invoke,builtin,e1,Builtin.max_]
      rw [this]; rfl
   | min =>
    simp only at h
    cases hx:evalL tm args.toList with
    | none=>simp [hx] at h
    | some vs =>
     cases vs with
     | nil=>simp [hx] at h
     | cons x l =>
      simp only [hx] at h
      have e1:=evalA_ok ha hx
      simp only [renL] at e1
      have:=min_ok (P:=P) m w h
      simp only [execOp,Sem.run_bind,resolve,Sem.run_pure,Result.andThen_ok,invoke,builtin,e1,Builtin.min_]
      rw [this]; rfl
   | _=>simp at h
  | _=>simp at h
 | _=>simp at h
end
end Go.Rx
end
section
namespace Go.Rx
open Go
theorem RowOk.cell {m:Nm} {i:Nat} {l:List Value} {e:TypeId} {w:World} {md:Nat} (h:RowOk m i l e w md) {j:Nat} {v:Value} (hj:l[j]? = some v) :
  w.cell? ⟨m.blk i,m.sh i+j,none⟩=some (ren m v):=by
 have hlt:j<l.length:=(List.getElem?_eq_some_iff.1 hj).1
 rcases md with _ | _ | n
 ·obtain ⟨h0,h1⟩:=h
  simp [World.cell?,h1,h0,renL_eq,hj]
 ·obtain ⟨c,e',fr,h1,h2,_⟩:=h
  simp [World.cell?,h1,h2 j v hj]
 ·obtain ⟨pr,rest,h1,h2,_⟩:=h
  simp only [World.cell?,h1,Option.isSome_none,Bool.false_eq_true,if_false,List.getElem?_toArray,List.append_assoc,← h2]
  rw [List.getElem?_append_right (by omega),Nat.add_sub_cancel_left,List.getElem?_append_left (by simpa using hlt)]
  simp [renL_eq,hj]
theorem run_getObj_map {P:Program} {w:World} {r:Nat} {es:Array MapEntry} {c:Nat} (h:w.heap[r]? = some (.map es c)):(getObj r).run P w = .ok (.map es c) w:=by
 simp [getObj,Sem.run,h]
theorem ownRow_some {s:S} {i:Nat} {l:List Value} {e:TypeId} {md:Nat} (h:ownRow s i=some (l,e,md)):lk s.h i=some (.inl (l,e,md))∧md≠1:=by
 unfold ownRow at h
 cases hl:lk s.h i with
 | none=>simp [hl] at h
 | some b =>
  rcases b with ⟨l',e',md'⟩ | ⟨es,c⟩
  ·rcases md' with _ | _ | n<;>simp [hl] at h<;>obtain ⟨rfl,rfl,rfl⟩:=h<;>simp
  ·simp [hl] at h
theorem blt_false {a b:Nat} (h:Nat.blt a b=false):¬ a<b:=fun hlt=>by
 have:Nat.blt a b=true:=Nat.ble_eq_true_of_le hlt
 rw [this] at h
 cases h
theorem blt_true {a b:Nat} (h:Nat.blt a b=true):a<b:=Nat.le_of_ble_eq_true h
theorem sub_add_at (c b k:Nat) (h:b≤c):c+k - b=c - b+k:=by omega
theorem capD_add {c:Nat} (h:capBase≤c) (k:Nat):capD (c+k)=capD c+k:=sub_add_at c capBase k h
section
variable {P:Program} {T:Tb} (hT:TbOk P T) (m:Nm) (w:World)
include hT
theorem load_ok {s:S} (hf:Fits m s w) {t:TypeId} {i off:Nat} {l:List Value} {e:TypeId} {md:Nat} (hl:lk s.h i=some (.inl (l,e,md))) {v:Value}
  (h:(match T.und t with
    | none=>none
    | some d=>cond (isAggD d) (match sizeX T t with
      | some n=>match seg l off n with
       | some cs=>some (Value.agg cs.toArray)
       | none=>none
      | none=>none) (nth l off))=some v) :
  (loadVar t ⟨m.blk i,m.sh i+off,none⟩).run P w = .ok (ren m v) w:=by
 have hr:RowOk m i l e w md:=hf.ok i _ hl
 cases hd:T.und t with
 | none=>simp [hd] at h
 | some d =>
  simp only [hd] at h
  unfold loadVar
  simp only [Sem.run_bind,run_isAgg hT w hd,Result.andThen_ok]
  cases hag:isAggD d with
  | true =>
   simp only [hag,cond_true] at h
   cases hs:sizeX T t with
   | none=>simp [hs] at h
   | some n =>
    simp only [hs] at h
    cases hg:seg l off n with
    | none=>simp [hg] at h
    | some cs =>
     simp only [hg,Option.some.injEq] at h
     subst h
     have hlen:(renL m cs).length=n:=by rw [length_renL]; exact seg_len hg
     have:=run_loadCells_list (P:=P) w ⟨m.blk i,m.sh i+off,none⟩ (renL m cs) (fun j u hu=>by
      rw [renL_eq,List.getElem?_map] at hu
      cases hc:cs[j]? with
      | none=>simp [hc] at hu
      | some u' =>
       simp [hc] at hu
       subst hu
       rw [add_at,Nat.add_assoc]
       exact hr.cell (seg_get hg hc))
     rw [hlen] at this
     simp [run_size hT w hs,this,ren]
  | false =>
   simp only [hag,cond_false,nth_eq] at h
   have:=hr.cell h
   simp [this]
theorem keyFs_ok {K:TypeId→Value→Bool} {d:Nat} {b:Bool} (hK:∀ t v w,K t v=true→(Instr.checkKey b d t (ren m v)).run P w = .ok () w) (cs:List Value) (fs:List Field) (h:keyFs T K cs fs=true) :
  (forIn fs PUnit.unit (fun f _ =>
    if f.name ≠ "_" then (do
     let x ← part f.type ⟨renL m cs⟩ f.offset
     Instr.checkKey b d f.type x
     pure (ForInStep.yield PUnit.unit))
    else pure (ForInStep.yield PUnit.unit)):Sem PUnit).run P w = .ok PUnit.unit w:=by
 induction fs with
 | nil=>simp
 | cons f fs ih =>
  simp only [keyFs] at h
  simp only [List.forIn_cons]
  split at h
  ·rename_i hn
   cases hp:partX T f.type cs f.offset with
   | none=>simp [hp] at h
   | some v =>
    simp only [hp] at h
    cases hk:K f.type v with
    | false=>simp [hk] at h
    | true =>
     simp only [hk,cond_true] at h
     have h1:=run_part hT m w hp
     have h2:=hK f.type v w hk
     simp only [hn,ne_eq,not_false_eq_true,if_true,Sem.run_bind,h1,Result.andThen_ok,h2,Sem.run_pure]
     exact ih h
  ·rename_i hn
   simp only [hn,if_false,Sem.run_bind,Sem.run_pure,Result.andThen_ok]
   exact ih h
theorem key_ok (b:Bool) (d k:Nat) {t:TypeId} {v:Value} (w:World) (h:keyX T d t v=true):(Instr.checkKey b (d+k) t (ren m v)).run P w = .ok () w:=by
 induction d generalizing t v w with
 | zero=>simp [keyX] at h
 | succ d ih =>
  have hsucc:d+1+k=(d+k)+1:=by omega
  rw [hsucc]
  simp only [keyX] at h
  cases hd:T.und t with
  | none=>simp [hd] at h
  | some ty =>
   have hu:=run_und hT w hd
   cases ty with
   | int kk=>simp [Instr.checkKey,hu]
   | string=>simp [Instr.checkKey,hu]
   | bool=>simp [Instr.checkKey,hu]
   | struct fs =>
    simp only [hd] at h
    cases v with
    | agg cs =>
     obtain ⟨cs⟩:=cs
     simp only at h
     have:=keyFs_ok hT m w (b:=b) (d:=d+k) (fun t v w hk=>ih w hk) cs fs.toList h
     simp only [Instr.checkKey,Sem.run_bind,hu,Result.andThen_ok,ren,renA_mk]
     rw [← Array.forIn_toList,this]
     rfl
    | _=>simp at h
   | _=>simp [hd] at h
theorem asking_ok {kt:TypeId} {k:Value} (es:List MapEntry) (i:Nat) {r:Option (Nat×Value)} (h:findX T kt k es i=some r) :
  (Instr.findAsking kt (ren m k) (es.map (renE m)) i).run P w = .ok (r.map fun p=>(p.1,ren m p.2)) w:=by
 induction es generalizing i with
 | nil=>simp [findX] at h; subst h; simp [Instr.findAsking]
 | cons e es ih =>
  simp only [findX] at h
  cases he:eqv T 50 kt k e.key with
  | none=>simp [he] at h
  | some b =>
   have hq:=equal_ok hT m w he
   cases b with
   | true=>simp [he] at h; subst h; simp [Instr.findAsking,renE,hq]
   | false=>simp only [he] at h; simpa [Instr.findAsking,renE,hq] using ih (i+1) h
omit hT in
theorem now_ok {kt:TypeId} {d:TypeDesc} (hd:T.und kt=some d) {k:Value} (es:List MapEntry) (i:Nat) {r r':Option (Nat×Value)} (h:findX T kt k es i=some r)
  (h':Instr.findNow d (ren m k) (es.map (renE m)) i=some r'):r'=r.map fun p=>(p.1,ren m p.2):=by
 induction es generalizing i with
 | nil=>simp [findX] at h; subst h; simp [Instr.findNow] at h'; simp [← h']
 | cons e es ih =>
  simp only [findX] at h
  simp only [List.map_cons,Instr.findNow] at h'
  cases he:eqv T 50 kt k e.key with
  | none=>simp [he] at h
  | some b =>
   have key:∀ b',Instr.sameNow d (ren m k) (renE m e).key=some b'→b'=b:=by
    intro b' hb'
    simp only [renE] at hb'
    rcases eqv_shape he with ⟨x,y,hx,hy⟩ | ⟨kk,x,k',y,hx,hy⟩ | ⟨x,y,hx,hy⟩ | ⟨x,y,hx,hy⟩ | ⟨x,n,c,y,n',c',hx,hy⟩ | ⟨x,y,hx,hy⟩ | ⟨x,y,hx,hy⟩ | ⟨x,n,c,hx,hy⟩
    ·rw [hx,hy] at hb' he
     cases d<;>simp [Instr.sameNow,ren] at hb'
     simp [eqv,hd] at he
     exact hb'.symm.trans he
    ·rw [hx,hy] at hb' he
     cases d<;>simp [Instr.sameNow,ren] at hb'
     simp [eqv,hd] at he
     exact hb'.2.symm.trans he.2
    ·rw [hx,hy] at hb' he
     cases d<;>simp [Instr.sameNow,ren] at hb'
     simp [eqv,hd] at he
     rw [← hb',← he,bytesEq_eq,beq_toListBytes,ByteArray.toList_eq,ByteArray.toList_eq]
    ·rw [hx,hy] at hb'
     cases x<;>cases y<;>cases d<;>simp [Instr.sameNow,ren] at hb'
    ·rw [hx,hy] at hb'
     cases x<;>cases y<;>cases d<;>simp [Instr.sameNow,ren] at hb'
    ·rw [hx,hy] at hb'
     cases x<;>cases y<;>cases d<;>simp [Instr.sameNow,ren] at hb'
    ·rw [hx,hy] at hb'
     cases d<;>simp [Instr.sameNow,ren] at hb'
    ·rw [hx,hy] at hb'
     cases d<;>simp [Instr.sameNow,ren] at hb'
   cases hsn:Instr.sameNow d (ren m k) (renE m e).key with
   | none=>simp [hsn] at h'
   | some b' =>
    have:=key b' hsn
    subst this
    cases b' with
    | true=>simp [he] at h; subst h; simp [hsn] at h'; simp [← h',renE]
    | false=>simp only [he] at h; simp only [hsn] at h'; exact ih (i+1) h h'
theorem find_ok {kt:TypeId} {d:TypeDesc} (hd:T.und kt=some d) {k:Value} {es:List MapEntry} {r:Option (Nat×Value)} (h:findX T kt k es 0=some r) :
  (Instr.findKey kt (ren m k) (es.map (renE m))).run P w = .ok (r.map fun p=>(p.1,ren m p.2)) w:=by
 unfold Instr.findKey
 simp only [Sem.run_bind,run_und hT w hd,Result.andThen_ok]
 cases hn:Instr.findNow d (ren m k) (es.map (renE m)) 0 with
 | some r'=>simp [now_ok m hd es 0 h hn]
 | none=>exact asking_ok hT m w es 0 h
omit hT in
theorem keyX_und {d:Nat} {kt:TypeId} {v:Value} (h:keyX T d kt v=true):∃ ty,T.und kt=some ty:=by
 cases d with
 | zero=>simp [keyX] at h
 | succ d =>
  simp only [keyX] at h
  cases hd:T.und kt with
  | none=>simp [hd] at h
  | some ty=>exact ⟨ty,rfl⟩
omit hT in
theorem capRow_some {s:S} {i sz:Nat} {l:List Value} (h:capRow s i sz=some l):∃ e md,lk s.h i=some (.inl (l,e,md))∧(md=1∧e=sz+1∨md=sz+2):=by
 unfold capRow at h
 cases hl:lk s.h i with
 | none=>simp [hl] at h
 | some b =>
  rcases b with ⟨l',e',md'⟩ | ⟨es,c⟩
  ·rcases md' with _ | _ | n
   ·simp [hl] at h
   ·simp only [hl,beq_eq] at h
    by_cases he:e'=sz+1
    ·simp only [he,decide_true,cond_true,Option.some.injEq] at h
     subst h; exact ⟨_,_,rfl,.inl ⟨rfl,he⟩⟩
    ·simp [he] at h
   ·simp only [hl,beq_eq] at h
    by_cases he:n=sz
    ·simp only [he,decide_true,cond_true,Option.some.injEq] at h
     subst h; exact ⟨_,_,rfl,.inr (by rw [he])⟩
    ·simp [he] at h
  ·simp [hl] at h
omit hT in
theorem sym_cap0 {s:S} (hf:Fits m s w) {i c sz:Nat} {l:List Value} (hl:capRow s i (sz+1)=some l) {off n:Nat} (ho:off=capD c*(sz+1)) (hn:off+n*(sz+1)≤l.length):n+capD c≤m.cp i:=by
 obtain ⟨e,md,hl,hmd⟩:=capRow_some hl
 have h3:l.length≤m.cp i*(sz+1):=by
  rcases hmd with ⟨rfl,rfl⟩ | rfl
  ·obtain ⟨_,_,_,_,_,h3⟩:=hf.ok i _ hl
   exact h3 _ rfl
  ·obtain ⟨pr,rest,_,_,h3⟩:=hf.ok i _ hl
   omega
 have:(n+capD c)*(sz+1)≤m.cp i*(sz+1):=by rw [Nat.add_mul]; omega
 exact Nat.le_of_mul_le_mul_right this (by omega)
theorem sliceR_ok {s:S} (hf:Fits m s w) {t:TypeId} {x v:Value} {lo hi mx:Option Value} (h:sliceR T s t x lo hi mx=some v) :
  (Instr.sliceAt t (ren m x) (lo.map (ren m)) (hi.map (ren m)) (mx.map (ren m))).run P w = .ok (ren m v) w:=by
 unfold sliceR at h
 cases hd:T.und t with
 | none=>simp [hd] at h
 | some dd =>
 cases dd with
 | slice e =>
  cases x with
  | slice p n c =>
   cases p with
   | none=>simp [hd] at h
   | some a =>
    simp only [hd] at h
    cases hc:Nat.blt c capBase with
    | true=>simp [hc] at h
    | false =>
     have hc':¬ c<capBase:=blt_false hc
     simp only [hc,cond_false] at h
     cases hs:sizeX T e with
     | none=>simp [hs] at h
     | some sz =>
      simp only [hs] at h
      cases hr:capRow s a.block sz with
      | none=>simp [hr] at h
      | some l =>
       simp only [hr,beq_eq] at h
       ·by_cases hoff:a.off=capD c*sz
        ·rw [decide_eq_true hoff] at h
         simp only [cond_true] at h
         cases hpos:Nat.blt 0 sz with
         | false=>simp [hpos] at h
         | true =>
          have hpos':0<sz:=blt_true hpos
          simp only [hpos,cond_true] at h
          obtain ⟨sz,rfl⟩:∃ q,sz=q+1:=⟨sz - 1,by omega⟩
          obtain ⟨_,_,hl0,_⟩:=capRow_some hr
          have hl:=hr
          have hbd:=hf.bd _ _ hl0
          have ecx:ren m (.slice (some a) n c) = .slice (some ⟨m.blk a.block,m.sh a.block+a.off,none⟩) n (m.cp a.block - capD c):=by
           simp [ren,capOf,hc']
          have hknown:(l.length - a.off) / (sz+1)≤m.cp a.block - capD c:=by
           rcases Nat.eq_zero_or_pos ((l.length - a.off) / (sz+1)) with h0 | hp
           ·omega
           ·have hle:=Nat.div_mul_le_self (l.length - a.off) (sz+1)
            have hge:a.off≤l.length:=by
             rcases Nat.lt_or_ge l.length a.off with hlt | hge
             ·rw [show l.length - a.off=0 by omega] at hp; simp at hp
             ·exact hge
            have:=sym_cap0 m w hf (c:=c) (n:=(l.length - a.off) / (sz+1)) (off:=a.off) hl hoff (by omega)
            omega
          have hu:=run_und hT w hd
          cases mx with
          | some vm =>
           simp only at h
           cases hb1:bound1 vm ((l.length - a.off) / (sz+1)) with
           | none=>simp [hb1] at h
           | some M0 =>
            simp only [hb1] at h
            cases hle0:Nat.ble (a.off+M0*(sz+1)) l.length with
            | false=>simp [hle0] at h
            | true =>
             simp only [hle0,cond_true] at h
             cases hb:boundsX n M0 lo hi (some vm) with
             | none=>simp [hb] at h
             | some q =>
              obtain ⟨l1,hh,M⟩:=q
              simp only [hb] at h
              cases hMc:Nat.blt M capBase with
              | false=>simp [hMc] at h
              | true =>
               simp only [hMc,cond_true,Option.some.injEq] at h
               subst h
               have hMc':M<capBase:=blt_true hMc
               have hM0:M0≤m.cp a.block - capD c:=by
                have:=(bound_ok (P:=P) m w hb1 _ (Nat.le_refl _) .index).2
                omega
               obtain ⟨b1,b2,b3,_⟩:=bounds_ok (P:=P) (isS:=true) m w hb hM0
               simp only [Option.isSome_some,if_true,Option.map_some] at b1
               have hMl:M - l1<capBase:=Nat.lt_of_le_of_lt (Nat.sub_le _ _) hMc'
               have hrun:(Instr.sliceAt t (ren m (.slice (some a) n c)) (lo.map (ren m)) (hi.map (ren m)) ((some vm).map (ren m))).run P w = .ok (.slice (if M=l1 then some ⟨m.blk a.block,m.sh a.block+a.off,none⟩ else some ⟨m.blk a.block,m.sh a.block+a.off+l1*(sz+1),none⟩) (hh - l1) (M - l1)) w:=by
                rw [ecx]
                simp only [Instr.sliceAt,Sem.run_bind,hu,Result.andThen_ok,Instr.slice,b1,run_size hT w hs,Sem.run_pure,Option.map_some,add_at]
               rw [hrun]
               by_cases hMl1:M=l1
               ·rw [hMl1] at hMl ⊢
                simp only [decide_true,cond_true,ren,if_true,capOf,if_pos hMl]
               ·simp only [decide_eq_false hMl1,cond_false,ren,if_neg hMl1,capOf,if_pos hMl,Nat.add_assoc]
          | none =>
           simp only at h
           cases hb:boundsX n ((l.length - a.off) / (sz+1)) lo hi none with
           | none=>simp [hb] at h
           | some q =>
            obtain ⟨l1,hh,M⟩:=q
            simp only [hb] at h
            cases hle0:Nat.ble (a.off+hh*(sz+1)) l.length with
            | false=>simp [hle0] at h
            | true =>
             simp only [hle0,cond_true] at h
             have hle1:a.off+hh*(sz+1)≤l.length:=Nat.le_of_ble_eq_true hle0
             have hhC:=sym_cap0 m w hf (c:=c) (n:=hh) (off:=a.off) hl hoff hle1
             obtain ⟨b1,b2,_,b4⟩:=bounds_ok (P:=P) (isS:=true) m w hb hknown
             simp only [Option.isSome_none,Bool.false_eq_true,if_false] at b1
             have hrun:(Instr.sliceAt t (ren m (.slice (some a) n c)) (lo.map (ren m)) (hi.map (ren m)) ((none:Option Value).map (ren m))).run P w = .ok (.slice (if m.cp a.block - capD c=l1 then some ⟨m.blk a.block,m.sh a.block+a.off,none⟩ else some ⟨m.blk a.block,m.sh a.block+a.off+l1*(sz+1),none⟩) (hh - l1) (m.cp a.block - capD c - l1)) w:=by
              rw [ecx]
              simp only [Instr.sliceAt,Sem.run_bind,hu,Result.andThen_ok,Instr.slice,b1,run_size hT w hs,Sem.run_pure,Option.map_some,add_at]
             cases l1 with
             | zero =>
              simp only [Option.some.injEq] at h
              subst h
              rw [Nat.sub_zero,Nat.sub_zero,Nat.zero_mul,Nat.add_zero] at hrun
              by_cases hC:m.cp a.block - capD c=0
              ·rw [if_pos hC] at hrun; rw [hrun]; simp only [ren,capOf,if_neg hc']
              ·rw [if_neg hC] at hrun; rw [hrun]; simp only [ren,capOf,if_neg hc']
             | succ l1 =>
              simp only at h
              cases hlt:Nat.blt (l1+1) hh with
              | true =>
               have hlt':l1+1<hh:=blt_true hlt
               simp only [hlt,cond_true,Option.some.injEq] at h
               subst h
               have hne:¬ m.cp a.block - capD c=l1+1:=by omega
               have hnc:¬ c+(l1+1)<capBase:=fun hh=>hc' (Nat.lt_of_le_of_lt (Nat.le_add_right _ _) hh)
               have hcd:capD (c+(l1+1))=capD c+(l1+1):=capD_add (Nat.le_of_not_lt hc') _
               rw [hrun]
               simp only [ren,capOf,if_neg hnc,if_neg hne,hcd,Nat.add_assoc,Nat.sub_sub]
              | false=>simp [hlt] at h
        ·rw [decide_eq_false hoff] at h
         simp at h
  | _=>simp [hd] at h
 | _=>simp [hd] at h
theorem read_ok {s : S} (hf : Fits m s w) {tm : List Value} {a : Act} (ha : a.tmps = ⟨renL m tm⟩) (o : Oper) {v : Value} (h : readX T tm s o.op = some v) : (execOp a.eval o).run P w = .ok (.value (ren m v)) w := by
  obtain ⟨dst, op, type, pos, after, guard⟩ := o
  simp only at h
  unfold readX at h
  cases op with
  | load t x =>
    simp only at h
    cases hx : evalO tm x with
    | none => simp [hx] at h
    | some u =>
      cases u with
      | pointer p =>
        cases p with
        | none => simp [hx] at h
        | some b =>
          simp only [hx] at h
          cases hl : lk s.h b.block with
          | none => simp [hl] at h
          | some blk =>
            rcases blk with ⟨l, e, md⟩ | ⟨es, c⟩
            · simp only [hl] at h
              have := load_ok hT m w hf hl h
              simp [execOp, evalO_ok ha hx, ren, Instr.loadAt, Instr.sureAddr, this]
            · simp [hl] at h
      | _ => simp [hx] at h
  | slice t x lo hi mx =>
    simp only at h
    cases hx : evalO tm x with
    | none => simp [hx] at h
    | some u =>
      cases h1 : evalM tm lo with
      | none => simp [hx, h1] at h
      | some l =>
        cases h2 : evalM tm hi with
        | none => simp [hx, h1, h2] at h
        | some hh =>
          cases h3 : evalM tm mx with
          | none => simp [hx, h1, h2, h3] at h
          | some mm =>
            simp only [hx, h1, h2, h3] at h
            have := sliceR_ok hT m w hf h
            simp only [execOp, evalO_ok ha hx, evalM_ok ha h1, evalM_ok ha h2, evalM_ok ha h3]
            rw [Sem.run_bind, this]; rfl
  | lookup t x k ok =>
    simp only at h
    cases hd : T.und t with
    | none => simp [hd] at h
    | some d =>
      cases d with
      | map kt et =>
        simp only [hd] at h
        cases hx : evalO tm x with
        | none => simp [hx] at h
        | some u =>
          cases u with
          | map r =>
            simp only [hx] at h
            cases hk : evalO tm k with
            | none => simp [hk] at h
            | some kv =>
              simp only [hk] at h
              cases hkx : keyX T 50 kt kv with
              | false => simp [hkx] at h
              | true =>
                simp only [hkx, cond_true] at h
                obtain ⟨ty, hty⟩ := keyX_und hkx
                have main : ∀ es : List MapEntry, (match findX T kt kv es 0 with
                      | none => none
                      | some (some (_, v)) => some (cond ok (.tuple #[v, .bool true]) v)
                      | some none => match T.inf et with
                        | some (_, _, z) => some (cond ok (.tuple #[z, .bool false]) z)
                        | none => none) = some v →
                    (Instr.checkKey (es.map (renE m)).toArray.isEmpty 10000 kt (ren m kv)).run P w = .ok () w ∧
                    ((∃ pi pv, (Instr.findKey kt (ren m kv) (es.map (renE m))).run P w = .ok (some (pi, pv)) w ∧ ren m v = if ok = true then Value.tuple #[pv, .bool true] else pv) ∨
                     (∃ z, (Instr.findKey kt (ren m kv) (es.map (renE m))).run P w = .ok none w ∧ (zeroValue et).run P w = .ok z w ∧ ren m v = if ok = true then Value.tuple #[z, .bool false] else z)) := by
                  intro es he
                  refine ⟨key_ok hT m _ 50 9950 w hkx, ?_⟩
                  cases hfx : findX T kt kv es 0 with
                  | none => simp [hfx] at he
                  | some fr =>
                    have h2 := find_ok hT m w hty hfx
                    cases fr with
                    | none =>
                      simp only [hfx] at he
                      cases hi : T.inf et with
                      | none => simp [hi] at he
                      | some y =>
                        obtain ⟨y1, y2, z⟩ := y
                        obtain ⟨hz, hzr⟩ := run_zero hT m w hi
                        simp only at hz hzr
                        simp [hi] at he
                        subst he
                        refine .inr ⟨z, h2, hz, ?_⟩
                        cases ok <;> simp [ren, renL, hzr]
                    | some p =>
                      obtain ⟨pi, pv⟩ := p
                      simp [hfx] at he
                      subst he
                      refine .inl ⟨pi, ren m pv, h2, ?_⟩
                      cases ok <;> simp [ren, renL]
                cases r with
                | none =>
                  simp only at h
                  obtain ⟨h1, ⟨pi, pv, h2, h3⟩ | ⟨z, h2, h2', h3⟩⟩ := main [] h
                  · simp only [List.map_nil] at h1 h2
                    simp only [execOp, evalO_ok ha hx, evalO_ok ha hk, Sem.run_bind, Instr.lookup, run_und hT w hd, Result.andThen_ok, ren, Sem.run_pure, h1, h2, h3]
                  · simp only [List.map_nil] at h1 h2
                    simp only [execOp, evalO_ok ha hx, evalO_ok ha hk, Sem.run_bind, Instr.lookup, run_und hT w hd, Result.andThen_ok, ren, Sem.run_pure, h1, h2, h2', h3]
                | some r =>
                  simp only at h
                  cases hl : lk s.h r with
                  | none => simp [hl] at h
                  | some blk =>
                    rcases blk with x | ⟨es, c⟩
                    · simp [hl] at h
                    · simp only [hl] at h
                      have hb : w.heap[m.blk r]? = some (.map (es.map (renE m)).toArray c) := hf.ok r _ hl
                      obtain ⟨h1, ⟨pi, pv, h2, h3⟩ | ⟨z, h2, h2', h3⟩⟩ := main es h
                      · simp only [execOp, evalO_ok ha hx, evalO_ok ha hk, Sem.run_bind, Instr.lookup, run_und hT w hd, Result.andThen_ok, ren, Sem.run_pure, run_getObj_map hb, h1, h2, h3]
                      · simp only [execOp, evalO_ok ha hx, evalO_ok ha hk, Sem.run_bind, Instr.lookup, run_und hT w hd, Result.andThen_ok, ren, Sem.run_pure, run_getObj_map hb, h1, h2, h2', h3]
          | _ => simp [hx] at h
      | _ => simp [hd] at h
  | call c =>
    obtain ⟨callee, args, ats⟩ := c
    simp only at h
    cases callee with
    | builtin b =>
      cases b with
      | len =>
        simp only at h
        cases hx : evalL tm args.toList with
        | none => simp [hx] at h
        | some vs =>
          rcases vs with _ | ⟨x, _ | ⟨y, l⟩⟩
          · simp [hx] at h
          · cases x with
            | map r =>
              obtain ⟨ats⟩ := ats
              cases ats with
              | nil => simp [hx] at h
              | cons t ts =>
                simp only [hx] at h
                have e1 := evalA_ok ha hx
                simp only [renL] at e1
                cases hd : T.und t with
                | none => simp [hd] at h
                | some d =>
                  cases d with
                  | map kt et =>
                    simp only [hd] at h
                    simp only [execOp, Sem.run_bind, resolve, Sem.run_pure, Result.andThen_ok, invoke, builtin, e1]
                    cases r with
                    | none =>
                      simp at h; subst h
                      simp [Builtin.len_, run_und hT w hd, ren, goInt]
                    | some r =>
                      simp only at h
                      cases hl : lk s.h r with
                      | none => simp [hl] at h
                      | some blk =>
                        rcases blk with x | ⟨es, c⟩
                        · simp [hl] at h
                        · simp only [hl, Option.some.injEq] at h
                          subst h
                          have hb : w.heap[m.blk r]? = some (.map (es.map (renE m)).toArray c) := hf.ok r _ hl
                          simp [Builtin.len_, run_und hT w hd, ren, goInt, run_getObj_map hb]
                  | _ => simp [hd] at h
            | _ => simp [hx] at h
          · simp [hx] at h
      | _ => simp at h
    | _ => simp at h
  | _ => simp at h
end
end Go.Rx
end
