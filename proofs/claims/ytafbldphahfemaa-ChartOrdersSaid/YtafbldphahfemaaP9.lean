/-
  Texts of the walk: MpN MpC MpD MpE MpF.
-/
import Derived.Laws.BytesString
import Derived.Test.YtafbldphahfemaaP8
section
namespace Go.Vx
open Go Go.Rx
set_option linter.unusedVariables false
set_option linter.unusedSimpArgs false
theorem q68 (K:Nat) (b:B) (sz:Nat) (l:List U):fz K b sz (.iptr l) = .iptr l:=by simp [fz]
theorem push_all:∀ (ns:List Int) (b:List UInt8),ns.foldl (fun (r:ByteArray) n=>r.push (UInt8.ofNat n.toNat)) ⟨⟨b⟩⟩=⟨⟨b++ns.map fun z=>UInt8.ofNat z.toNat⟩⟩
 | [],b=>by simp
 | n::ns,b=>by
  simp only [List.foldl_cons,List.map_cons]
  have:(ByteArray.mk ⟨b⟩).push (UInt8.ofNat n.toNat)=⟨⟨b++[UInt8.ofNat n.toNat]⟩⟩:=by simp [ByteArray.push]
  rw [this,push_all ns]
  simp
theorem StepU.bstr {P:Program} {T:Tb} (hT:TbOk P T) {σ:Sg} {tm:List U} {o:Oper} {s d e:TypeId} {xo:Operand} {K off n cap:Nat} {cells:List U} {ty:TypeId} {ns:List Int} (ho:o.op = .convert s d xo) (h1:T.und s=some (.slice e)) (h2:T.und e=some (.int .u8)) (h3:T.und d=some .string)
  (hx:evalU tm xo=some (.sl K off n cap)) (hg:gt σ.h K=some (.row cells ty)) (hc:(cells.drop off).take n=ns.map fun z=>.int .u8 z) (hn:ns.length=n):StepU P σ tm o (fun u σ'=>u = .str (ns.map fun z=>UInt8.ofNat z.toNat)∧σ'=σ):=fun F x tv m w a next Q hxσ st hn'=>by
 subst hxσ
 obtain ⟨v,ev,rv⟩:=q0k st.e hx
 simp only [Rel] at rv
 obtain ⟨_,_,href⟩:=rv
 obtain ⟨hbl,i,l',hρ,hlk,hE⟩:okL cells=true∧∃ i l',x.ρ K=some i∧lk x.s.h i=some (.inl (l',ty,0))∧RelE x cells l':=(st.h.ok K _ hg).2
 obtain ⟨i2,hρ2,rfl,_,_⟩:=(href _ hg).2 rfl
 rw [hρ] at hρ2
 cases hρ2
 have hev:=q0r (st.act m (Agree.refl _ _)) ev
 simp only [ren] at hev
 have hr:RowOk m i l' ty w 0:=st.fits.fits.ok i _ hlk
 have hload:(loadCells ⟨m.blk i,m.sh i+off,none⟩ n).run P w = .ok (ns.map (Value.int .u8)).toArray w:=by
  have:=run_loadCells_list (P:=P) w ⟨m.blk i,m.sh i+off,none⟩ (ns.map (Value.int .u8)) (fun j u hu=>by
   rw [q5h,Nat.add_assoc]
   have h4:((cells.drop off).take n)[j]? = (ns.map fun z=>U.int .u8 z)[j]?:=by rw [hc]
   rw [List.getElem?_map] at hu h4
   cases hz:ns[j]? with
   | none=>rw [hz] at hu; cases hu
   | some z =>
    rw [hz] at hu h4
    simp only [Option.map_some,Option.some.injEq] at hu h4
    subst hu
    have hjn:j<n:=by have:=(List.getElem?_eq_some_iff.1 hz).1; omega
    rw [List.getElem?_take_of_lt hjn,List.getElem?_drop] at h4
    obtain ⟨v',g1,g2⟩:=hE.get h4
    simp only [Rel] at g2
    subst g2
    have:=hr.cell g1
    simpa [ren] using this)
  rw [List.length_map,hn] at this
  exact this
 have hrun:(execOp a.eval o).run P w = .ok (.value (.string ⟨⟨ns.map fun z=>UInt8.ofNat z.toNat⟩⟩)) w:=by
  simp only [execOp,ho,hev,Sem.run_bind]
  have hcv:(convert s d (.slice (some ⟨m.blk i,m.sh i+off,none⟩) n (capOf m i cap))).run P w = .ok (.string ⟨⟨ns.map fun z=>UInt8.ofNat z.toNat⟩⟩) w:=by
   unfold convert
   simp only [Sem.run_bind,q0p hT w h1,q0p hT w h3,Result.andThen_ok]
   simp only [Sem.run_bind,q0p hT w h2,Result.andThen_ok]
   rw [run_bytesToString w _ n _ ns hload]
   have:=push_all ns []
   simp only [List.nil_append] at this
   rw [← this]
   rfl
  rw [hcv]
  rfl
 unfold Oper.wp
 rw [hrun]
 refine hn' _ x (putT tv o.dst (.string ⟨⟨ns.map fun z=>UInt8.ofNat z.toNat⟩⟩)) m w _ ⟨rfl,rfl⟩ ⟨st.h,st.fr,qcc st.e (by simp [Rel]) _,st.fits,st.act.put (q2q fun _=>by simp [ren]) o.dst⟩ (Adv.refl st.fits) (Ke.refl _ _) (Nat.le_refl _) (q5m _ _ _)
end Go.Vx
end
section
namespace Go.Vx
open Go Go.Rx
set_option linter.unusedVariables false
def SubH (σ τ:Sg):Prop:=∀ k b,gt σ.h k=some b→gt τ.h k=some b
section
variable {σ τ:Sg} (hs:SubH σ τ)
include hs
theorem q88 {k st:Nat} (h:live σ k st=true):live τ k st=true:=by
 unfold live at *
 cases hg:gt σ.h k with
 | none=>rw [hg] at h; cases h
 | some b=>rw [hg] at h; rw [hs k b hg]; exact h
theorem q63 {α:Type} {k st:Nat} {X:Option α} {u:α} (h:cond (live σ k st) X none=some u):cond (live τ k st) X none=some u:=by
 cases hl:live σ k st with
 | false=>rw [hl] at h; cases h
 | true=>rw [hl] at h; rw [q88 hs hl]; exact h
theorem cellsOf_mono {k st:Nat} {l:List U} (h:cellsOf σ k st=some l):cellsOf τ k st=some l:=by
 unfold cellsOf at *
 cases hg:gt σ.h k with
 | none=>rw [hg] at h; cases h
 | some b=>rw [hg] at h; rw [hs k b hg]; exact h
theorem vecOf_mono {k st:Nat} {l:List U×TypeId×Nat} (h:vecOf σ k st=some l):vecOf τ k st=some l:=by
 unfold vecOf at *
 cases hg:gt σ.h k with
 | none=>rw [hg] at h; cases h
 | some b=>rw [hg] at h; rw [hs k b hg]; exact h
variable {T:Tb} {tm:List U}
theorem readU_mono {op:Op} {u:U} (h:readU T σ tm op=some u):readU T τ tm op=some u:=by
 cases op with
 | load t x =>
  simp only [readU] at *
  cases hx:evalU tm x with
  | none=>rw [hx] at h; exact h
  | some a =>
   rw [hx] at h
   cases a with
   | ptr k st off =>
    simp only [] at *
    cases hc:cellsOf σ k st with
    | none=>rw [hc] at h; cases h
    | some l=>rw [hc] at h; rw [cellsOf_mono hs hc]; exact h
   | _=>exact h
 | lookup t x k ok =>
  simp only [readU] at *
  cases hd:T.und t with
  | none=>rw [hd] at h; cases h
  | some d =>
   rw [hd] at h
   cases d with
   | map kt et =>
    cases hx:evalU tm x with
    | none=>rw [hx] at h; exact h
    | some a =>
     rw [hx] at h
     cases hk:evalU tm k with
     | none=>rw [hk] at h; cases h
     | some ku =>
      rw [hk] at h
      cases a with
      | map r =>
       simp only [] at *
       cases hg:gt σ.h r with
       | none =>
        rw [hg] at h
        cases hv:toV ku with
        | none=>rw [hv] at h; exact h
        | some kv =>
         rw [hv] at h
         simp only [] at h
         cases hkx:keyX T 50 kt kv<;>rw [hkx] at h<;>cases h
       | some b=>rw [hg] at h; rw [hs r b hg]; exact h
      | _=>exact h
   | _=>exact h
 | _=>exact h
theorem there_mono {u:U} {n:Nat} (hn:n≠0) (h:there σ u=n):there τ u=n:=by
 unfold there at *
 cases u with
 | ptr k st off =>
  simp only [] at *
  cases hl:live σ k st with
  | false=>rw [hl] at h; exact absurd h.symm hn
  | true=>rw [hl] at h; rw [q88 hs hl]; exact h
 | sl k a b c =>
  simp only [] at *
  cases hl:live σ k 0 with
  | false=>rw [hl] at h; exact absurd h.symm hn
  | true=>rw [hl] at h; rw [q88 hs hl]; exact h
 | map k =>
  simp only [] at *
  cases hl:live σ k 0 with
  | false=>rw [hl] at h; exact absurd h.symm hn
  | true=>rw [hl] at h; rw [q88 hs hl]; exact h
 | vl k st off m =>
  cases m with
  | zero=>exact h
  | succ m =>
   simp only [] at *
   cases hl:live σ k st with
   | false=>rw [hl] at h; exact absurd h.symm hn
   | true=>rw [hl] at h; rw [q88 hs hl]; exact h
 | isl t l=>cases l<;>exact h
 | _=>exact h
theorem nilCmp_mono {op:BinOp} {t:TypeId} {x y u:U} (h:nilCmp T σ op t x y=some u):nilCmp T τ op t x y=some u:=by
 unfold nilCmp at *
 by_cases hk:kindT T t=0
 ·simp only [beq_eq,hk,decide_true,cond_true] at h; cases h
 ·simp only [beq_eq,hk,decide_false,cond_false] at h ⊢
  by_cases hx:there σ x=kindT T t
  ·have:=there_mono hs hk hx
   simpa [hx,this] using h
  ·by_cases hy:there σ y=kindT T t
   ·have hy':=there_mono hs hk hy
    by_cases hn:nilKind x=kindT T t
    ·have hxx:cmpB op=some u:=by simpa [hx,hy,hn] using h
     have hz:there τ x=0:=by
      cases x<;>simp [nilKind] at hn<;>first | rfl | exact absurd hn.symm hk
     have hz':¬ there τ x=kindT T t:=by rw [hz]; exact fun h=>hk h.symm
     simpa [hz',hy',hn] using hxx
    ·simp [hx,hn] at h
   ·by_cases hn:nilKind x=kindT T t
    ·simp [hx,hn,hy] at h
    ·simp [hx,hn] at h
theorem binU_mono {op:BinOp} {t:TypeId} {x y u:U} (h:binU T σ op t x y=some u):binU T τ op t x y=some u:=by
 unfold binU at *
 cases hg:g2 (binX T op t) x y with
 | some r=>rw [hg] at h; exact h
 | none=>rw [hg] at h; exact nilCmp_mono hs h
theorem fieldAtU_mono {t:TypeId} {x u:U} {f:Nat} (h:fieldAtU T σ t x f=some u):fieldAtU T τ t x f=some u:=by
 unfold fieldAtU at *
 split at h
 ·split at h
  ·split at h
   ·split at h
    ·exact q63 hs h
    ·exact h
    ·cases h
   ·cases h
  ·cases h
 ·cases h
theorem indexAtU_mono {t:TypeId} {x i u:U} (h:indexAtU T σ t x i=some u):indexAtU T τ t x i=some u:=by
 unfold indexAtU at *
 split at h
 ·split at h
  ·split at h
   ·split at h
    ·exact q63 hs h
    ·split at h
     ·rename_i hv; rw [vecOf_mono hs hv]; exact h
     ·cases h
    ·exact h
    ·cases h
   ·cases h
  ·split at h
   ·split at h
    ·exact q63 hs h
    ·exact h
    ·cases h
   ·cases h
  ·cases h
 ·cases h
theorem lenU_mono {t:TypeId} {x u:U} (h:lenU T σ t x=some u):lenU T τ t x=some u:=by
 unfold lenU at *
 split at h
 ·split at h
  ·exact h
  ·exact q63 hs h
  ·exact q63 hs h
  ·exact h
  ·cases h
 ·exact h
 ·exact h
 ·split at h
  ·exact h
  ·split at h
   ·rename_i hv; rw [hs _ _ hv]; exact h
   ·cases h
  ·cases h
 ·cases h
theorem capU_mono {t:TypeId} {x u:U} (h:capU T σ t x=some u):capU T τ t x=some u:=by
 unfold capU at *
 split at h
 ·split at h
  ·exact h
  ·exact q63 hs h
  ·cases h
 ·cases h
theorem sliceU_mono {t:TypeId} {x u:U} {a b c:Option Value} (h:sliceU T σ t x a b c=some u):sliceU T τ t x a b c=some u:=by
 unfold sliceU at *
 split at h
 ·exact h
 ·split at h
  ·split at h
   ·exact h
   ·exact q63 hs h
   ·split at h
    ·rename_i hv; rw [vecOf_mono hs hv]; exact h
    ·cases h
   ·exact h
   ·cases h
  ·cases h
 ·cases h
theorem pureU_mono {op:Op} {u:U} (h:pureU T σ tm op=some u):pureU T τ tm op=some u:=by
 cases op with
 | nilCheck x =>
  simp only [pureU] at *
  split at h
  ·exact q63 hs h
  ·exact h
  ·exact h
  ·cases h
 | binOp o t x y ty =>
  simp only [pureU] at *
  split at h
  ·exact binU_mono hs h
  ·cases h
 | slice t x lo hi mx =>
  simp only [pureU] at *
  split at h
  ·exact sliceU_mono hs h
  ·cases h
 | fieldAddr t x f =>
  simp only [pureU] at *
  split at h
  ·exact fieldAtU_mono hs h
  ·cases h
 | indexAddr t x i =>
  simp only [pureU] at *
  split at h
  ·exact indexAtU_mono hs h
  ·cases h
 | call c =>
  simp only [pureU] at *
  split at h
  ·split at h
   ·exact lenU_mono hs h
   ·cases h
  ·split at h
   ·exact capU_mono hs h
   ·cases h
  ·exact h
  ·exact h
  ·cases h
 | _=>exact h
def noEff:Op→Bool
 | .alloc _ | .box _ _ | .store _ _ _ | .buildSlice _ _ _ | .makeSlice _ _ _ | .makeMap _ _ | .mapUpdate _ _ _ _ | .insert _ _ _ _ | .mapEntry _ _ _ | .entryStore _ _ _ _=>false
 | .call c=>(match c.callee with
  | .builtin .append=>false
  | .builtin .copy=>false
  | .builtin .delete=>false
  | .builtin .clear=>false
  | _=>true)
 | _=>true
omit hs in
theorem effU_none {op:Op} (h:noEff op=true):effU T σ tm op=none:=by
 cases op<;>simp only [noEff] at h<;>first | rfl | (cases h) | skip
 case call c =>
  simp only [effU]
  split<;>simp_all
theorem look_mono {op:Op} {u:U} (hn:noEff op=true) (h:opU T σ tm op=some (u,σ)):opU T τ tm op=some (u,τ):=by
 unfold opU at *
 cases hp:pureU T σ tm op with
 | some v =>
  rw [hp] at h; simp only [Option.some.injEq,Prod.mk.injEq,and_true] at h; subst h
  rw [pureU_mono hs hp]
 | none =>
  rw [hp] at h
  cases hr:readU T σ tm op with
  | none=>rw [hr] at h; simp only [effU_none hn] at h; cases h
  | some v =>
   rw [hr] at h; simp only [Option.some.injEq,Prod.mk.injEq,and_true] at h; subst h
   have hpt:pureU T τ tm op=none:=by
    cases op<;>first | rfl | (simp [readU] at hr)
   rw [hpt,readU_mono hs hr]
end
end Go.Vx
end
section
namespace Go.Vx
open Go Go.Rx
set_option linter.unusedVariables false
theorem mv_name {F:Nat→Blk→Prop} {y:Cx} {σ:Sg} {nx0 k:Nat} {l:List U} {e:TypeId} (hy:y.σ=newU σ (.row l e)) (hh:HRel y) (hf:Fr F y) (hk1:nx0≤k) (hk2:k<σ.nx) (hgk:gt σ.h k=none)
  (hlt:∀ j b,gt σ.h j=some b→j<σ.nx) (hl:BelL 0 l) (hrows:∀ j b,gt σ.h j=some b→BelB nx0 b) :
  ∃ y':Cx,y'.σ=⟨(k,.row l e)::σ.h,σ.nx⟩∧y'.s=y.s∧HRel y'∧Fr F y'∧Ke nx0 y y'∧(∀ v,Rel y (.ptr σ.nx 0 0) v→Rel y' (.ptr k 0 0) v)∧(∀ j v,j≠k→j<σ.nx→Rel y (.ptr j 0 0) v→Rel y' (.ptr j 0 0) v):=by
 have gy:∀ j,gt y.σ.h j=if σ.nx=j then some (.row l e) else gt σ.h j:=fun j=>by rw [hy]; simp only [newU,q31]
 have gy':∀ j,gt ((k,B.row l e)::σ.h) j=if k=j then some (.row l e) else gt σ.h j:=fun j=>by rw [q31]
 have old:∀ j b,gt σ.h j=some b→gt y.σ.h j=some b:=fun j b hb=>by
  have:=hlt j b hb
  rw [gy,if_neg (by omega)]; exact hb
 have hnk:∀ j b,gt σ.h j=some b→j≠k:=fun j b hb h=>by subst h; rw [hgk] at hb; cases hb
 have hmo:Mo nx0 y ⟨fun j=>if j=k then y.ρ σ.nx else y.ρ j,⟨(k,.row l e)::σ.h,σ.nx⟩,y.s⟩:=by
  refine ⟨fun j h1 h2=>⟨by simp only; omega,fun b' hb'=>?_⟩,fun _ _ _ h=>h⟩
  simp only [gy'] at hb'
  rw [if_neg (by omega)] at hb'
  exact ⟨b',old j b' hb',Nat.le_refl _,fun _=>⟨by simp only; rw [if_neg (by omega)],fun l e sz st h=>⟨l,h⟩⟩⟩
 refine ⟨⟨fun j=>if j=k then y.ρ σ.nx else y.ρ j,⟨(k,.row l e)::σ.h,σ.nx⟩,y.s⟩,rfl,rfl,⟨fun j b hb=>?_,fun j j' b b' i hb hb' h1 h2=>?_,hh.bd⟩,fun i b hF=>?_,hmo.ke,fun v hv=>?_,fun j v hj hjl hv=>?_⟩
 ·simp only [gy'] at hb
  by_cases hjk:k=j
  ·subst hjk
   rw [if_pos rfl] at hb
   cases hb
   refine ⟨hk2,?_⟩
   obtain ⟨_,h2⟩:=hh.ok σ.nx (.row l e) (by rw [gy,if_pos rfl])
   obtain ⟨q1,i,l',q2,q3,q4⟩:=h2
   exact ⟨q1,i,l',by simp [q2],q3,hmo.ke.E (BelL.le (Nat.zero_le _) l hl) q4⟩
  ·rw [if_neg hjk] at hb
   refine ⟨hlt j b hb,?_⟩
   exact (hh.ok j b (old j b hb)).2.monoB (hrows j b hb) hmo (by simp only; rw [if_neg (fun h=>hjk h.symm)]) fun _ _ _ h=>h
 ·have key:∀ j b,gt ((k,B.row l e)::σ.h) j=some b→∀ i,(if j=k then y.ρ σ.nx else y.ρ j)=some i→∃ j0 b0,gt y.σ.h j0=some b0∧y.ρ j0=some i∧(j=k∧j0=σ.nx∨j≠k∧j0=j∧j<σ.nx):=fun j b hb i hi=>by
   rw [gy'] at hb
   by_cases hjk:j=k
   ·rw [if_pos hjk] at hi
    exact ⟨σ.nx,.row l e,by rw [gy,if_pos rfl],hi,.inl ⟨hjk,rfl⟩⟩
   ·rw [if_neg (fun h=>hjk h.symm)] at hb
    rw [if_neg hjk] at hi
    exact ⟨j,b,old j b hb,hi,.inr ⟨hjk,rfl,hlt j b hb⟩⟩
  obtain ⟨a,ba,g1,g2,g3⟩:=key j b hb i h1
  obtain ⟨c,bc,g4,g5,g6⟩:=key j' b' hb' i h2
  have:=hh.inj a c ba bc i g1 g4 g2 g5
  omega
 ·obtain ⟨h1,h2⟩:=hf i b hF
  refine ⟨h1,fun j c hc=>?_⟩
  simp only [gy'] at hc
  by_cases hjk:j=k
  ·simp only [hjk,if_true]
   exact h2 σ.nx (.row l e) (by rw [gy,if_pos rfl])
  ·rw [if_neg (fun h=>hjk h.symm)] at hc
   simp only [hjk,if_false]
   exact h2 j c (old j c hc)
 ·simp only [Rel,Ref] at hv ⊢
  refine ⟨hv.1,hk2,fun b hb=>?_⟩
  simp only [gy',if_true] at hb
  have:=hv.2.2 b (by rw [gy,if_pos rfl]; exact hb)
  simpa using this
 ·simp only [Rel,Ref] at hv ⊢
  refine ⟨hv.1,hjl,fun b hb=>?_⟩
  simp only [gy',if_neg (fun h:k=j=>hj h.symm)] at hb
  have:=hv.2.2 b (old j b hb)
  simpa [hj] using this
structure Al where
 i:Nat
 k:Nat
 l:List U
 e:TypeId
structure ChA (P:Program) (T:Tb) (ops:List Oper) (tm₀:List U) (σb σ1:Sg) (rs:List RecU) (als:List Al):Prop where
 some:als≠[]
 names:∀ al∈als,σb.nx≤al.k∧al.k<σ1.nx
 nodup:∀ a∈als,∀ b∈als,a.k=b.k→a.i=b.i
 le:σb.nx≤σ1.nx
 at_:∀ al∈als,∃ r d,rs[al.i]? = .some r∧r.u = .ptr al.k 0 0∧r.act=false∧r.mv=true∧r.o.op = .alloc al.e∧r.o.guard=none∧r.o.dst = .some d
 row:∀ al∈als,(∀ σ tm,opU T σ tm (.alloc al.e) = .some (.ptr σ.nx 0 0,newU σ (.row al.l al.e)))∧BelL 0 al.l
 all:∀ (i:Nat) (r:RecU),rs[i]? = .some r→r.act=false→r.mv=true→∃ al∈als,al.i=i
 own:∀ al∈als,gt σ1.h al.k = .some (.row al.l al.e)
 oth:∀ j,(∀ al∈als,al.k≠j)→gt σ1.h j=gt σb.h j
 acts:∀ (i:Nat) (r:RecU),rs[i]? = .some r→r.act=true→∀ al∈als,Pre ops i al.i
 early:∀ (i:Nat) (r:RecU),rs[i]? = .some r→r.act=false→r.mv=false→(∀ al∈als,Pre ops i al.i)∨(Bel σb.nx r.u∧(wantedU ops r.tm r.o = .some true→opU T r.s r.tm r.o.op = .some (r.u,r.s')→noEff r.o.op=true∧opU T ⟨σb.h,σ1.nx⟩ r.tm r.o.op = .some (r.u,⟨σb.h,σ1.nx⟩)))
section
variable {P:Program} {T:Tb} (hT:TbOk P T) (ops:Array Oper) {tm₀:List U} {σb σ1:Sg} {rs:List RecU} {tm':List U} {σ':Sg} {als:List Al}
 (htr:TrU P T ops.toList tm₀ σ1 rs tm' σ') (hst:staticOk ops.toList=true) (hch:ChU T ops.toList rs) (hal:ChA P T ops.toList tm₀ σb σ1 rs als)
include hT htr hst hch hal
theorem anyA_ok {n0:Nat} (hn0:n0≤σb.nx) (hb0:BelL σb.nx tm₀) (hbr:∀ j b,gt σb.h j=some b→j<σb.nx∧BelB σb.nx b) {F:Nat→Blk→Prop} {x0:Cx} {m0:Nm} {w0:World} {E:Exit→Act→World→Prop} {df:List Deferred} (hQ:∀ y tv m w a,y.σ=σ'→St F y tm' tv m w a→Adv m0 x0.s w0 m y.s w→Ke n0 x0 y→n0≤y.σ.nx→a.defers=df→E .normal a w) :
  ∀ (fuel:Nat) (listed:Array Bool) (a:Act) (w:World) (m:Nm) (tm:List U) (tv:List Value) (x:Cx),listed.size=ops.size→listed.toList.count false=fuel →
   Closed ops.toList (fun k=>listed.getD k false=true)→SeesU tm₀ rs (fun k=>listed.getD k false=true) tm→(∃ al∈als,¬ listed.getD al.i false=true) →
   x.σ.nx=σ1.nx→(∀ al∈als,gt x.σ.h al.k=if listed.getD al.i false=true then some (.row al.l al.e) else none)→(∀ j,(∀ al∈als,al.k≠j)→gt x.σ.h j=gt σb.h j) →
   St F x tm tv m w a→Adv m0 x0.s w0 m x.s w→Ke n0 x0 x→a.defers=df →
   wpAny P .any ops E fuel listed a w:=by
 have hn:rs.length=ops.size:=by simpa using htr.len
 intro fuel
 induction fuel with
 | zero =>
  intro listed a w m tm tv x hsz hcnt hcl hsees hun hnx hrow hoth hstt hadv hke hdf
  exfalso
  obtain ⟨al,hm,hu⟩:=hun
  obtain ⟨r,d,h1,_⟩:=hal.at_ al hm
  have hlt:=(List.getElem?_eq_some_iff.1 h1).1
  have hk':al.i<listed.size:=by omega
  have:listed[al.i]≠false:=fun hf=>by
   have hm:false∈listed.toList:=by rw [← hf]; simp
   have:=List.count_pos_iff.2 hm
   omega
  have this':listed[al.i]=true:=by simpa using this
  exact hu (by simp [Array.getD,hk',this'])
 | succ fuel ih =>
  intro listed a w m tm tv x hsz hcnt hcl hsees hun hnx hrow hoth hstt hadv hke hdf
  have mem_ready:∀ i,i∈Region.ready .any ops listed↔i<ops.size∧listed.getD i true=false∧∃ o,ops[i]? = some o∧∀ e∈o.after.toList,Region.binds .any e=true→listed.getD e.on false=true:=by
   intro i
   unfold Region.ready
   rw [List.mem_filter,List.mem_range]
   refine and_congr_right fun hi=>?_
   have ho:ops[i]? = some ops[i]:=by simp [hi]
   simp only [ho,Option.map_some,Option.getD_some,Bool.and_eq_true,Bool.not_eq_true',Array.all_eq_true_iff_forall_mem,Bool.or_eq_true]
   refine and_congr_right fun _=>?_
   constructor
   ·intro h
    refine ⟨_,rfl,fun e he hb=>?_⟩
    rcases h e (by simpa using he) with h1 | h1
    ·simp [hb] at h1
    ·exact h1
   ·rintro ⟨o,ho',h⟩ e he
    cases ho'
    cases hb:Region.binds .any e with
    | false=>exact .inl rfl
    | true=>exact .inr (h e (by simpa using he) hb)
  refine ⟨fun hnil=>?_,fun i hi=>?_⟩
  ·exfalso
   have hex:∃ i,i<ops.size∧listed.getD i true=false:=by
    have hpos:0<listed.toList.count false:=by omega
    obtain ⟨i,hi,e⟩:=List.mem_iff_getElem.1 (List.count_pos_iff.1 hpos)
    simp at hi
    refine ⟨i,by omega,?_⟩
    simp only [Array.getElem_toList] at e
    simp [Array.getD,hi,e]
   have hmin:∀ n,n<ops.size→listed.getD n true=false→False:=by
    intro n
    induction n using Nat.strongRecOn with
    | _ n ihn =>
     intro hn1 hn2
     have:n∈Region.ready .any ops listed:=(mem_ready n).2 ⟨hn1,hn2,ops[n],by simp [hn1],fun e he hb=>by
      have hlt:=st_lt hst (i:=n) (o:=ops[n]) (by simp [hn1]) e he hb
      have hk':e.on<listed.size:=by omega
      cases hv:listed[e.on] with
      | true=>simp [Array.getD,hk',hv]
      | false=>exact (ihn e.on hlt (by omega) (by simp [Array.getD,hk',hv])).elim⟩
     rw [hnil] at this
     cases this
   obtain ⟨i,h1,h2⟩:=hex
   exact hmin i h1 h2
  ·obtain ⟨hilt,hil,o,ho,hedges⟩:=(mem_ready i).1 hi
   have hisz:i<listed.size:=by omega
   have hLi:¬ listed.getD i false=true:=by
    simp [Array.getD,hisz] at hil ⊢
    exact hil
   have hol:ops.toList[i]? = some o:=by simpa using ho
   obtain ⟨r,hr,hro⟩:=rsu_at ops htr hol
   subst hro
   have hrd:∀ q,ops.toList[i]? = some q→∀ e∈q.after.toList,Region.binds .any e=true→listed.getD e.on false=true:=fun q hq=>by
    rw [hol] at hq; cases hq; exact hedges
   have hlooks:=qcj ops htr hst hcl hsees hr hLi hrd
   obtain ⟨_,hgood,hs1,_⟩:=htr.all i r hr
   have hget:∀ k,((listed.setIfInBounds i true).getD k false=true)↔(listed.getD k false=true∨k=i):=fun k=>by
    by_cases hk:k=i
    ·subst hk; simp [Array.getD,hisz]
    ·by_cases hks:k<listed.size
     ·simp [Array.getD,hks,hk,Ne.symm hk]
     ·simp [Array.getD,hks,hk]
   have hcl':Closed ops.toList (fun k=>(listed.setIfInBounds i true).getD k false=true):=fun k q hk hq e he hb=>by
    refine (hget e.on).2 (.inl ?_)
    rcases (hget k).1 hk with hk | rfl
    ·exact hcl k q hk hq e he hb
    ·exact hrd q hq e he hb
   have hsees':SeesU tm₀ rs (fun k=>(listed.setIfInBounds i true).getD k false=true) (putW tm r.o.dst r.u):=by
    have:=qck ops htr hst hsees hr
    exact ⟨this.len,fun k q d a b c hL=>this.yes k q d a b c ((hget k).1 hL),fun k q d a b hL=>this.no k q d a b fun x=>hL ((hget k).2 x),this.other⟩
   have hcnt':(listed.setIfInBounds i true).toList.count false=fuel:=by
    have hv:listed[i]=false:=by simpa [Array.getD,hisz] using hil
    rw [Array.toList_setIfInBounds,List.count_set (by simpa using hisz)]
    have hc2:Array.count false listed=fuel+1:=by simpa using hcnt
    simp [hv]
    omega
   obtain ⟨hopc,hwc⟩:=looksU hlooks
   have notall:¬ (∀ al∈als,Pre ops.toList i al.i):=fun h=>by
    obtain ⟨al,hm,hu⟩:=hun
    exact hu (q8b hst hcl hrd (h al hm))
   have noact:r.act=false:=by
    cases ha:r.act with
    | false=>rfl
    | true=>exact absurd (hal.acts i r hr ha) notall
   have stay:r.mv=false→∀ y tv' m₁ w₁ a₁,y.σ=x.σ→St F y (putW tm r.o.dst r.u) tv' m₁ w₁ a₁→Adv m0 x0.s w0 m₁ y.s w₁→Ke n0 x0 y→a₁.defers=df→wpAny P .any ops E fuel (listed.setIfInBounds i true) a₁ w₁:=fun hmv y tv' m₁ w₁ a₁ h1 h2 h3 h4 h6=>by
    have hne:∀ al∈als,al.i≠i:=fun al hm h=>by
     obtain ⟨q,d,q1,_,_,q2,_⟩:=hal.at_ al hm
     rw [h,hr] at q1; cases q1; rw [hmv] at q2; cases q2
    have hge:∀ al∈als,((listed.setIfInBounds i true).getD al.i false=true)↔listed.getD al.i false=true:=fun al hm=>by
     rw [hget]; simp [hne al hm]
    refine ih _ _ _ m₁ _ tv' y (by simpa using hsz) hcnt' hcl' hsees' ?_ (by rw [h1]; exact hnx) (fun al hm=>?_) (by rw [h1]; exact hoth) h2 h3 h4 h6
    ·obtain ⟨al,hm,hu⟩:=hun
     exact ⟨al,hm,fun h=>hu ((hge al hm).1 h)⟩
    ·rw [h1,hrow al hm]
     by_cases hL:listed.getD al.i false=true
     ·rw [if_pos hL,if_pos ((hge al hm).2 hL)]
     ·rw [if_neg hL,if_neg fun h=>hL ((hge al hm).1 h)]
   have hsub:SubH ⟨σb.h,σ1.nx⟩ x.σ:=fun k b hb=>by
    rw [hoth k fun al hm h=>?_]
    ·exact hb
    ·have:=(hbr k b hb).1
     have:=(hal.names al hm).1
     omega
   unfold wpOp
   simp only [ho]
   rw [qco (hstt.act m (Agree.refl _ _)) ops r.o]
   cases hmv:r.mv with
   | true =>
    obtain ⟨al,hm,hi'⟩:=hal.all i r hr noact hmv
    obtain ⟨q,d,q1,q2,q3,q4,q5,q6,q7⟩:=hal.at_ al hm
    rw [hi',hr] at q1; cases q1
    obtain ⟨r1,r2⟩:=hal.row al hm
    have hw:wantedU ops.toList tm r.o=some true:=by unfold wantedU; rw [q6]
    rw [q2z hstt.e hw]
    simp only [if_true]
    left
    have hop':opU T x.σ tm r.o.op=some (.ptr x.σ.nx 0 0,newU x.σ (.row al.l al.e)):=by rw [q5]; exact r1 _ _
    refine hstt.op hT r.o hop' fun y tv' m₁ w₁ a₁ e1 st' hadv' hke' hnx' hdf'=>?_
    have hrows:∀ j b,gt x.σ.h j=some b→BelB σb.nx b:=fun j b hb=>by
     by_cases hj:∀ al∈als,al.k≠j
     ·rw [hoth j hj] at hb; exact (hbr j b hb).2
     ·have:∃ al∈als,al.k=j:=by
       apply Classical.byContradiction
       intro hc
       exact hj fun al hm h=>hc ⟨al,hm,h⟩
      obtain ⟨al',hm',rfl⟩:=this
      rw [hrow al' hm'] at hb
      split at hb
      ·cases hb; exact BelL.le (Nat.zero_le _) _ (hal.row al' hm').2
      ·cases hb
    have hgk:gt x.σ.h al.k=none:=by rw [hrow al hm,if_neg (by rw [hi']; exact hLi)]
    obtain ⟨y',z1,z2,z3,z4,z5,z6,z7⟩:=mv_name (F:=F) (nx0:=σb.nx) (k:=al.k) e1 st'.h st'.fr (hal.names al hm).1 (by rw [hnx]; exact (hal.names al hm).2) hgk (fun j b hb=>(hstt.h.ok j b hb).1) r2 hrows
    have hlen:tm.length=tm₀.length:=hsees.len
    have hslots:RelE y' (putW tm r.o.dst r.u) tv':=by
     have he:=st'.e
     rw [q7] at he ⊢
     simp only [putW] at he ⊢
     refine RelE.mk' (by have:=he.2; simpa using this) fun t u hu=>?_
     by_cases ht:t=d
     ·subst ht
      have htl:t<tm.length:=by have:=(List.getElem?_eq_some_iff.1 hu).1; simpa using this
      rw [List.getElem?_set_self htl] at hu
      obtain ⟨v,v1,v2⟩:=he.get (i:=t) (u:=.ptr x.σ.nx 0 0) (by rw [List.getElem?_set_self htl])
      cases hu
      rw [q2]
      exact ⟨v,v1,z6 v v2⟩
     ·rw [List.getElem?_set_ne (fun h=>ht h.symm)] at hu
      obtain ⟨v,v1,v2⟩:=he.get (i:=t) (u:=u) (by rw [List.getElem?_set_ne (fun h=>ht h.symm)]; exact hu)
      refine ⟨v,v1,?_⟩
      have hold:tm₀[t]? = some u→Rel y' u v:=fun h=>z5 u v ((q6x _ _).1 hb0 u (List.mem_of_getElem? h)) v2
      by_cases hno:∀ (k:Nat) (q:RecU),rs[k]? = some q→q.o.dst≠some t
      ·rw [hsees.other t hno] at hu; exact hold hu
      ·have:∃ (k:Nat) (q:RecU),rs[k]? = some q∧q.o.dst=some t:=by
        apply Classical.byContradiction
        intro hn
        exact hno fun k r hr hd=>hn ⟨k,r,hr,hd⟩
       obtain ⟨k,q,hq,hd⟩:=this
       by_cases hL:listed.getD k false=true
       ·have htl:t<tm₀.length:=by rw [← hlen]; exact (List.getElem?_eq_some_iff.1 hu).1
        rw [hsees.yes k q t hq hd htl hL] at hu
        cases hu
        cases ha:q.act with
        | true =>
         exfalso
         obtain ⟨al',hm',hu'⟩:=hun
         exact hu' (q6j hst hcl k al'.i hL (hal.acts k q hq ha al' hm'))
        | false =>
         cases hm2:q.mv with
         | true =>
          obtain ⟨al',hm',hi2⟩:=hal.all k q hq ha hm2
          obtain ⟨q',d',p1,p2,_⟩:=hal.at_ al' hm'
          rw [hi2,hq] at p1; cases p1
          rw [p2] at v2 ⊢
          refine z7 _ v (fun h=>?_) (by rw [hnx]; exact (hal.names al' hm').2) v2
          have:=hal.nodup al' hm' al hm h
          rw [hi2,hi'] at this
          subst this
          exact hLi hL
         | false =>
          rcases hal.early k q hq ha hm2 with h | h
          ·exfalso
           obtain ⟨al',hm',hu'⟩:=hun
           exact hu' (q6j hst hcl k al'.i hL (h al' hm'))
          ·exact z5 _ v h.1 v2
       ·rw [hsees.no k q t hq hd hL] at hu; exact hold hu
    have st2:St F y' (putW tm r.o.dst r.u) tv' m₁ w₁ a₁:=⟨z3,z4,hslots,by rw [z2]; exact st'.fits,by rw [z2]; exact st'.act⟩
    have hke2:Ke n0 x0 y':=(hke.trans (hke'.le (by rw [hnx]; have:=hal.le; omega))).trans (z5.le hn0)
    have hadv2:Adv m0 x0.s w0 m₁ y'.s w₁:=by rw [z2]; exact hadv.trans hadv'
    have hnx2:y'.σ.nx=σ1.nx:=by rw [z1]; exact hnx
    have hrow2:∀ al'∈als,gt y'.σ.h al'.k=if (listed.setIfInBounds i true).getD al'.i false=true then some (.row al'.l al'.e) else none:=fun al' hm'=>by
     rw [z1]
     simp only [q31]
     by_cases hkk:al.k=al'.k
     ·have hii:=hal.nodup al hm al' hm' hkk
      rw [if_pos hkk,if_pos ((hget _).2 (.inr (by rw [← hii,hi'])))]
      have g1:=hal.own al hm
      have g2:=hal.own al' hm'
      rw [hkk,g2] at g1
      exact g1.symm
     ·rw [if_neg hkk,hrow al' hm']
      have hne:al'.i≠i:=fun h=>hkk (by
       obtain ⟨q',d',p1,p2,_⟩:=hal.at_ al' hm'
       rw [h,hr] at p1; cases p1
       rw [q2] at p2; simpa using p2)
      have:((listed.setIfInBounds i true).getD al'.i false=true)↔listed.getD al'.i false=true:=by rw [hget]; simp [hne]
      by_cases hL:listed.getD al'.i false=true
      ·rw [if_pos hL,if_pos (this.2 hL)]
      ·rw [if_neg hL,if_neg fun h=>hL (this.1 h)]
    have hoth2:∀ j,(∀ al∈als,al.k≠j)→gt y'.σ.h j=gt σb.h j:=fun j hj=>by
     rw [z1]; simp only [q31]
     rw [if_neg (hj al hm)]; exact hoth j hj
    by_cases hmore:∃ al∈als,¬ (listed.setIfInBounds i true).getD al.i false=true
    ·exact ih _ _ _ m₁ _ tv' y' (by simpa using hsz) hcnt' hcl' hsees' hmore hnx2 hrow2 hoth2 st2 hadv2 hke2 (hdf'.trans hdf)
    ·-- all allocs have come
     have hdone:∀ al∈als,(listed.setIfInBounds i true).getD al.i false=true:=fun al hm=>by
      apply Classical.byContradiction
      intro h
      exact hmore ⟨al,hm,h⟩
     have hgt:∀ k,gt σ1.h k=gt y'.σ.h k:=fun k=>by
      by_cases hj:∀ al∈als,al.k≠k
      ·rw [hal.oth k hj,hoth2 k hj]
      ·have:∃ al∈als,al.k=k:=by
        apply Classical.byContradiction
        intro hc
        exact hj fun al hm h=>hc ⟨al,hm,h⟩
       obtain ⟨al',hm',rfl⟩:=this
       rw [hal.own al' hm',hrow2 al' hm',if_pos (hdone al' hm')]
     obtain ⟨y2,k1,k2,k3,k4,k5,k6⟩:=Gh.same (n0:=n0) (tm:=putW tm r.o.dst r.u) (σ:=y'.σ) σ1.h hgt F y' tv' rfl st2.h st2.fr st2.e
     have hσ2:y2.σ=σ1:=by rw [k2,hnx2]
     have hadv3:=k1 m₁ w₁ st2.fits
     refine anyU_ok hT ops htr hst hch (n0:=n0) (F:=F) (x0:=x0) (m0:=m0) (w0:=w0) (df:=df) hQ fuel (listed.setIfInBounds i true) a₁ w₁ m₁ 0 (putW tm r.o.dst r.u) tv' y2 (by simpa using hsz) hcnt' hcl' (fun e q h1 h2 h3=>?_) hsees' (Nat.zero_le _) (fun e q h1 h2=>?_) (by rw [hσ2]; exact htr.s0.symm) ⟨k3,k4,k5,hadv3.fits,st2.act.ext hadv3.agree hadv3.nx⟩ (hadv2.trans hadv3) (hke2.trans k6) (by rw [hσ2]; have:=hal.le; omega) (hdf'.trans hdf)
     ·obtain ⟨al',hm',hi2⟩:=hal.all e q h1 h2 h3
      rw [← hi2]; exact hdone al' hm'
     ·constructor
      ·intro hL
       exfalso
       rcases (hget e).1 hL with hL | rfl
       ·obtain ⟨al',hm',hu'⟩:=hun
        exact hu' (q6j hst hcl e al'.i hL (hal.acts e q h1 h2 al' hm'))
       ·rw [hr] at h1; cases h1; rw [noact] at h2; cases h2
      ·intro h; omega
   | false =>
    rcases hgood with ⟨hw,hu,ha,_⟩ | ⟨hw,hop,hqu⟩ | ⟨hw,ha,f,args,hcall,hev⟩ | ⟨hw,ha,_,hfree⟩ | ⟨ha,hm,_⟩
    ·rw [q2z hstt.e (hwc.trans hw)]
     simp only [Bool.false_eq_true,if_false]
     rw [hu] at stay
     exact stay hmv x _ m w _ rfl (hstt.skip r.o.dst) hadv hke ((q5m _ _ _).trans hdf)
    ·rw [q2z hstt.e (hwc.trans hw)]
     simp only [if_true]
     left
     rcases hal.early i r hr noact hmv with h | h
     ·exact absurd h notall
     ·obtain ⟨g1,g2⟩:=h.2 hw hop
      have hop':opU T x.σ tm r.o.op=some (r.u,x.σ):=by
       rw [q9t hopc]; exact look_mono hsub g1 g2
      exact hstt.op hT r.o hop' fun y tv' m₁ w₁ a₁ e1 st' hadv' hke' hnx' hdf'=>stay hmv y tv' m₁ w₁ a₁ e1 st' (hadv.trans hadv') (hke.trans (hke'.le (by rw [hnx]; have:=hal.le; omega))) (hdf'.trans hdf)
    ·rw [noact] at ha; cases ha
    ·rw [q2z hstt.e (hwc.trans hw)]
     simp only [if_true]
     left
     exact hstt.free hT r.o (hfree.congr hopc) fun y tv' m₁ w₁ a₁ e1 st' hadv' hke' hnx' hdf'=>stay hmv y tv' m₁ w₁ a₁ e1 st' (hadv.trans hadv') (hke.trans (hke'.le (by rw [hnx]; have:=hal.le; omega))) (hdf'.trans hdf)
    ·rw [hmv] at hm; cases hm
end
end Go.Vx
end
section
namespace Go.Vx
open Go Go.Rx
set_option linter.unusedVariables false
def RA (P:Program) (T:Tb) (ops:List Oper) (nb:Nat) (σe:Sg):List Oper→List U→Sg→List RK→List Al→(List RK→List U→Sg→Prop)→Prop
 | [],tm,σ,acc,q,K=>q=[]∧K acc tm σ
 | o::r,tm,σ,acc,q,K =>
  (wantedU ops tm o=some true∧∃ u,opU T σ tm o.op=some (u,σ)∧RA P T ops nb σe r (putW tm o.dst u) σ ((1,⟨tm,o,u,false,false,σ,σ⟩)::acc) q K) ∨
  (wantedU ops tm o=some true∧∃ u σ',opU T σ tm o.op=some (u,σ')∧RA P T ops nb σe r (putW tm o.dst u) σ' ((3,⟨tm,o,u,true,true,σ,σ'⟩)::acc) q K) ∨
  (wantedU ops tm o=some true∧∃ f args u,callU T tm o.op=some (f,args)∧EvU P f args σ (fun u' σ'=>u'=u∧σ'=σ)∧RA P T ops nb σe r (putW tm o.dst u) σ ((2,⟨tm,o,u,true,false,σ,σ⟩)::acc) q K) ∨
  (wantedU ops tm o=some true∧∃ f args u σ',callU T tm o.op=some (f,args)∧EvU P f args σ (fun u' s'=>u'=u∧s'=σ')∧RA P T ops nb σe r (putW tm o.dst u) σ' ((3,⟨tm,o,u,true,true,σ,σ'⟩)::acc) q K) ∨
  (wantedU ops tm o=some false∧RA P T ops nb σe r (putW tm o.dst (.tup [])) σ ((0,⟨tm,o,.tup [],false,false,σ,σ⟩)::acc) q K) ∨
  (wantedU ops tm o=some true∧∃ u,FreeO P T tm o.op u∧Bel nb u∧RA P T ops nb σe r (putW tm o.dst u) σ ((6,⟨tm,o,u,false,false,σ,σ⟩)::acc) q K) ∨
  (wantedU ops tm o=some true∧∃ u,opU T σ tm o.op=some (u,σ)∧opU T σe tm o.op=some (u,σe)∧noEff o.op=true∧Bel nb u∧RA P T ops nb σe r (putW tm o.dst u) σ ((5,⟨tm,o,u,false,false,σ,σ⟩)::acc) q K) ∨
  (∃ al q' d,q=al::q'∧al.i=acc.length∧o.op = .alloc al.e∧o.guard=none∧o.dst=some d∧RA P T ops nb σe r (putW tm o.dst (.ptr al.k 0 0)) σ ((4,⟨tm,o,.ptr al.k 0 0,false,true,σ,σ⟩)::acc) q' K)
theorem alloc_ne {T:Tb} {σ:Sg} {tm:List U} {e:TypeId} {u:U} (h:opU T σ tm (.alloc e)=some (u,σ)):False:=by
 simp only [opU,pureU,readU,effU] at h
 split at h
 ·split at h
  ·rename_i zu _
   cases hz:okL zu with
   | false=>rw [hz] at h; cases h
   | true =>
    rw [hz] at h
    simp only [cond_true,Option.some.injEq,Prod.mk.injEq] at h
    have:=congrArg Sg.nx h.2
    simp only [newU] at this
    omega
  ·cases h
 ·cases h
structure KA (P:Program) (T:Tb) (ops:List Oper) (nb:Nat) (σe:Sg) (x:RK):Prop where
 good:Good P T ops x.2
 sm:x.1≠3→x.2.s'=x.2.s
 act:x.2.act=true↔(x.1=2∨x.1=3)
 mv:x.2.act=false→(x.2.mv=true↔x.1=4)
 lk:x.2.act=false→wantedU ops x.2.tm x.2.o=some true→opU T x.2.s x.2.tm x.2.o.op=some (x.2.u,x.2.s')→x.1=1∨x.1=5
 ear:x.2.act=false→x.2.mv=false→x.1=1∨(Bel nb x.2.u∧(wantedU ops x.2.tm x.2.o=some true→opU T x.2.s x.2.tm x.2.o.op=some (x.2.u,x.2.s')→noEff x.2.o.op=true∧opU T σe x.2.tm x.2.o.op=some (x.2.u,σe)))
theorem ra_ok {P:Program} {T:Tb} {ops:List Oper} {nb:Nat} {σe:Sg}:∀ (rest:List Oper) (tm:List U) (σ:Sg) (acc:List RK) (q:List Al) (K:List RK→List U→Sg→Prop),RA P T ops nb σe rest tm σ acc q K →
  ∃ (ks:List RK) (tm':List U) (σ':Sg),K (ks.reverse++acc) tm' σ'∧ks.length=rest.length∧uAt (ks.map (·.2)) σ' 0=σ∧vAt (ks.map (·.2)) tm' 0=tm ∧
   (∀ (i:Nat) (x:RK),ks[i]? = some x→rest[i]? = some x.2.o∧KA P T ops nb σe x∧uAt (ks.map (·.2)) σ' (i+1)=x.2.s'∧vAt (ks.map (·.2)) tm' (i+1)=putW x.2.tm x.2.o.dst x.2.u) ∧
   (∀ (i:Nat) (x:RK),ks[i]? = some x→x.1=4→∃ al∈q,al.i=acc.length+i) ∧
   (∀ al∈q,∃ (i:Nat) (x:RK) (d:Tmp),al.i=acc.length+i∧ks[i]? = some x∧x.1=4∧x.2.u = .ptr al.k 0 0∧x.2.o.op = .alloc al.e∧x.2.o.guard=none∧x.2.o.dst=some d)
 | [],tm,σ,acc,q,K,h=>by
  obtain ⟨rfl,h⟩:=h
  exact ⟨[],tm,σ,h,rfl,rfl,rfl,fun i x hx=>by simp at hx,fun i x hx=>by simp at hx,fun al h=>by cases h⟩
 | o::rest,tm,σ,acc,q,K,h=>by
  have step:∀ (k:Nat) (u:U) (ac mv:Bool) (σ1:Sg) (q':List Al),RA P T ops nb σe rest (putW tm o.dst u) σ1 ((k,⟨tm,o,u,ac,mv,σ,σ1⟩)::acc) q' K→KA P T ops nb σe (k,⟨tm,o,u,ac,mv,σ,σ1⟩) →
    (k≠4∧q=q'∨∃ al d,q=al::q'∧al.i=acc.length∧k=4∧u = .ptr al.k 0 0∧o.op = .alloc al.e∧o.guard=none∧o.dst=some d) →
    ∃ (ks:List RK) (tm':List U) (σ':Sg),K (ks.reverse++acc) tm' σ'∧ks.length=(o::rest).length∧uAt (ks.map (·.2)) σ' 0=σ∧vAt (ks.map (·.2)) tm' 0=tm ∧
     (∀ (i:Nat) (x:RK),ks[i]? = some x→(o::rest)[i]? = some x.2.o∧KA P T ops nb σe x∧uAt (ks.map (·.2)) σ' (i+1)=x.2.s'∧vAt (ks.map (·.2)) tm' (i+1)=putW x.2.tm x.2.o.dst x.2.u) ∧
     (∀ (i:Nat) (x:RK),ks[i]? = some x→x.1=4→∃ al∈q,al.i=acc.length+i) ∧
     (∀ al∈q,∃ (i:Nat) (x:RK) (d:Tmp),al.i=acc.length+i∧ks[i]? = some x∧x.1=4∧x.2.u = .ptr al.k 0 0∧x.2.o.op = .alloc al.e∧x.2.o.guard=none∧x.2.o.dst=some d):=by
   intro k u ac mv σ1 q' h hk hq
   obtain ⟨ks,tm',σ',g1,g2,g3,g4,g5,g6,g7⟩:=ra_ok rest _ _ _ _ _ h
   refine ⟨(k,⟨tm,o,u,ac,mv,σ,σ1⟩)::ks,tm',σ',by simpa using g1,by simp [g2],rfl,rfl,fun i x hx=>?_,fun i x hx h4=>?_,fun al hal=>?_⟩
   ·cases i with
    | zero =>
     simp at hx; subst hx
     refine ⟨rfl,hk,?_,?_⟩
     ·simp only [uAt,List.map_cons,List.getElem?_cons_succ]; exact g3
     ·simp only [vAt,List.map_cons,List.getElem?_cons_succ]; exact g4
    | succ i =>
     simp only [List.getElem?_cons_succ] at hx
     obtain ⟨k1,k2,k3,k4⟩:=g5 i x hx
     refine ⟨by simpa using k1,k2,?_,?_⟩
     ·simp only [uAt,List.map_cons,List.getElem?_cons_succ]; exact k3
     ·simp only [vAt,List.map_cons,List.getElem?_cons_succ]; exact k4
   ·cases i with
    | zero =>
     simp at hx; subst hx
     rcases hq with ⟨hne,_⟩ | ⟨al,d,rfl,hi,_⟩
     ·exact absurd h4 hne
     ·exact ⟨al,by simp,by omega⟩
    | succ i =>
     simp only [List.getElem?_cons_succ] at hx
     obtain ⟨al,h1,h2⟩:=g6 i x hx h4
     refine ⟨al,?_,by simp at h2; omega⟩
     rcases hq with ⟨_,rfl⟩ | ⟨al',d,rfl,_⟩
     ·exact h1
     ·exact List.mem_cons_of_mem _ h1
   ·have later:al∈q'→∃ (i:Nat) (x:RK) (d:Tmp),al.i=acc.length+i∧((k,(⟨tm,o,u,ac,mv,σ,σ1⟩:RecU))::ks)[i]? = some x∧x.1=4∧x.2.u = .ptr al.k 0 0∧x.2.o.op = .alloc al.e∧x.2.o.guard=none∧x.2.o.dst=some d:=fun hm=>by
     obtain ⟨i,x,d,h1,h2,h3⟩:=g7 al hm
     exact ⟨i+1,x,d,by simp at h1; omega,by simpa using h2,h3⟩
    rcases hq with ⟨_,rfl⟩ | ⟨al',d,rfl,hi,hk4,hu,ho,hg,hd⟩
    ·exact later hal
    ·rcases List.mem_cons.1 hal with rfl | hal
     ·exact ⟨0,_,d,by omega,rfl,hk4,hu,ho,hg,hd⟩
     ·exact later hal
  simp only [RA] at h
  rcases h with ⟨hw,u,h1,h2⟩ | ⟨hw,u,σ1,h1,h2⟩ | ⟨hw,f,args,u,h1,h2,h3⟩ | ⟨hw,f,args,u,σ1,h1,h2,h3⟩ | ⟨hw,h1⟩ | ⟨hw,u,h1,hb,h3⟩ | ⟨hw,u,h1,h2,h3,hb,h4⟩ | ⟨al,q',d,hq,hi,ho,hg,hd,h1⟩
  ·exact step 1 u false false σ q h2 ⟨.inr (.inl ⟨hw,h1,fun _=>rfl⟩),fun _=>rfl,by simp,by simp,fun _ _ _=>.inl rfl,fun _ _=>.inl rfl⟩ (.inl ⟨by omega,rfl⟩)
  ·exact step 3 u true true σ1 q h2 ⟨.inr (.inl ⟨hw,h1,by simp⟩),by simp,by simp,by simp,by simp,by simp⟩ (.inl ⟨by omega,rfl⟩)
  ·exact step 2 u true false σ q h3 ⟨.inr (.inr (.inl ⟨hw,rfl,f,args,h1,h2⟩)),fun _=>rfl,by simp,by simp,by simp,by simp⟩ (.inl ⟨by omega,rfl⟩)
  ·exact step 3 u true true σ1 q h3 ⟨.inr (.inr (.inl ⟨hw,rfl,f,args,h1,h2⟩)),by simp,by simp,by simp,by simp,by simp⟩ (.inl ⟨by omega,rfl⟩)
  ·exact step 0 _ false false σ q h1 ⟨.inl ⟨hw,rfl,rfl,rfl⟩,fun _=>rfl,by simp,by simp,(fun _ h=>by rw [hw] at h; cases h),fun _ _=>.inr ⟨by simp [Bel,BelL],fun h=>by rw [hw] at h; cases h⟩⟩ (.inl ⟨by omega,rfl⟩)
  ·exact step 6 u false false σ q h3 ⟨.inr (.inr (.inr (.inl ⟨hw,rfl,rfl,h1⟩))),fun _=>rfl,by simp,by simp,(fun _ _ h=>absurd h (h1.noop _)),fun _ _=>.inr ⟨hb,fun _ h=>absurd h (h1.noop _)⟩⟩ (.inl ⟨by omega,rfl⟩)
  ·exact step 5 u false false σ q h4 ⟨.inr (.inl ⟨hw,h1,fun _=>rfl⟩),fun _=>rfl,by simp,by simp,fun _ _ _=>.inr rfl,fun _ _=>.inr ⟨hb,fun _ _=>⟨h3,h2⟩⟩⟩ (.inl ⟨by omega,rfl⟩)
  ·exact step 4 _ false true σ q' h1 ⟨.inr (.inr (.inr (.inr ⟨rfl,rfl,rfl⟩))),fun _=>rfl,by simp,by simp,(fun _ _ h=>by simp only [] at h; rw [ho] at h; exact (alloc_ne h).elim),by simp⟩ (.inr ⟨al,d,hq,hi,rfl,rfl,ho,hg,hd⟩)
def kf (k:Nat):Nat:=cond (Nat.beq k 4) 0 (cond (Nat.beq k 5) 1 (cond (Nat.beq k 6) 0 k))
def lateB (ai:List Nat) (m:Nat):Bool:=ai.all fun i=>Nat.testBit m i
def lateA (ai:List Nat):List Nat→List Nat→Bool
 | k::ks,m::ms=>cond (Nat.ble 1 k) (cond (Nat.ble k 3) (lateB ai m) true) true&&lateA ai ks ms
 | [],_=>true
 | _::_,[]=>false
theorem lateA_at {ai:List Nat}:∀ {ks ms:List Nat},lateA ai ks ms=true→∀ {i k:Nat},ks[i]? = some k→1≤k→k≤3→∃ m,ms[i]? = some m∧∀ a∈ai,m.testBit a=true
 | [],ms,_,i,k,hk,_,_=>by simp at hk
 | _::_,[],h,_,_,_,_,_=>by simp [lateA] at h
 | k0::ks,m0::ms,h,i,k,hk,h1,h3=>by
  simp only [lateA,Bool.and_eq_true] at h
  cases i with
  | zero =>
   simp at hk; subst hk
   have a1:Nat.ble 1 k0=true:=by rw [Nat.ble_eq]; exact h1
   have a2:Nat.ble k0 3=true:=by rw [Nat.ble_eq]; exact h3
   have:=h.1
   rw [a1,a2] at this
   simp only [cond_true,lateB,List.all_eq_true] at this
   exact ⟨m0,rfl,this⟩
  | succ i =>
   simp only [List.getElem?_cons_succ] at hk ⊢
   exact lateA_at h.2 hk h1 h3
section
variable {P:Program} {T:Tb}
theorem chU_of {ops : Array Oper} {nb : Nat} {σe : Sg} {tm : List U} {σ : Sg} {ks : List RK} {tm' : List U} {σ' : Sg} {pr : List (Nat × Nat)} (hst : staticOk ops.toList = true) (htr : TrU P T ops.toList tm σ (ks.map (·.2)) tm' σ')
    (hkk : ∀ (i : Nat) (x : RK), ks[i]? = some x → KA P T ops.toList nb σe x) (hfl : flE ops.toList (ks.map fun x => kf x.1) pr = true) (hpr : pairsOk T ks pr) : ChU T ops.toList (ks.map (·.2)) := by
  have hlen : (ks.map (·.2)).length = ops.toList.length := htr.len
  have same : ∀ (p q : Nat), p ≤ q → q ≤ ks.length → (∀ (e : Nat) (x : RK), p ≤ e → e < q → ks[e]? = some x → x.1 ≠ 3) → uAt (ks.map (·.2)) σ' p = uAt (ks.map (·.2)) σ' q := by
    intro p q hpq hq hno
    induction q with
    | zero => have : p = 0 := by omega
              rw [this]
    | succ q ih =>
      rcases Nat.lt_or_ge q p with h | h
      · have : p = q + 1 := by omega
        rw [this]
      · rw [ih h (by omega) fun e r h1 h2 h3 => hno e r h1 (by omega) h3]
        have hr : ks[q]? = some ks[q] := by simp [show q < ks.length by omega]
        have hr2 : (ks.map (·.2))[q]? = some ks[q].2 := by simp [hr]
        have k3 := (htr.all q _ hr2).2.2.1
        rw [k3, (hkk q _ hr).sm (hno q _ h (Nat.lt_succ_self _) hr)]
        simp [uAt, hr2]
  have at_ : ∀ (i : Nat) (r : RecU), (ks.map (·.2))[i]? = some r → ∃ k, ks[i]? = some (k, r) := by
    intro i r hr
    simp only [List.getElem?_map] at hr
    cases hk : ks[i]? with
    | none => rw [hk] at hr; simp at hr
    | some x =>
      obtain ⟨k, r'⟩ := x
      rw [hk] at hr; simp at hr; subst hr
      exact ⟨k, rfl⟩
  have trp : ∀ (i k : Nat) (r : RecU), ks[i]? = some (k, r) → ∃ m, (masks ops.toList [])[i]? = some m ∧ (trip 0 (ks.map fun x => kf x.1) (masks ops.toList []))[i]? = some (kf k, m, cntM ((ks.map fun x => kf x.1).take i)) := by
    intro i k r hk
    obtain ⟨m1, _, _⟩ := q9r ops.toList []
    have hi : i < ops.toList.length := by rw [← hlen]; simp only [List.length_map]; exact (List.getElem?_eq_some_iff.1 hk).1
    have hm : i < (masks ops.toList []).length := by rw [m1]; simpa using hi
    refine ⟨(masks ops.toList [])[i], by simp [hm], ?_⟩
    have := trip_at (ks.map fun x => kf x.1) (masks ops.toList []) 0 i (kf k) _ (by simp [hk]) (show (masks ops.toList [])[i]? = some (masks ops.toList [])[i] by simp [hm])
    rwa [Nat.zero_add] at this
  have chk : ∀ (i k ki kk : Nat) (r q : RecU), ks[i]? = some (ki, r) → ks[k]? = some (kk, q) → ∃ mi mk, (masks ops.toList [])[i]? = some mi ∧ (masks ops.toList [])[k]? = some mk ∧
      okE pr i (kf ki, mi, cntM ((ks.map fun x => kf x.1).take i)) k (kf kk, mk, cntM ((ks.map fun x => kf x.1).take k)) = true := by
    intro i k ki kk r q hi hk
    obtain ⟨mi, e1, e2⟩ := trp i ki r hi
    obtain ⟨mk, e3, e4⟩ := trp k kk q hk
    refine ⟨mi, mk, e1, e3, ?_⟩
    have h1 := qbo hfl e2
    have h2 := qbo h1 e4
    simpa using h2
  have nomv : ∀ (p q : Nat), p ≤ q → q ≤ ks.length → cntM ((ks.map fun x => kf x.1).take p) = cntM ((ks.map fun x => kf x.1).take q) → uAt (ks.map (·.2)) σ' p = uAt (ks.map (·.2)) σ' q := by
    intro p q hpq hq hc
    refine same p q hpq hq fun e x h1 h2 h3 h4 => ?_
    have := cnt_none hpq (by simp; omega) hc e (kf x.1) h1 h2 (by simp [h3])
    rw [h4] at this
    exact this rfl
  have kact : ∀ (i : Nat) (r : RecU), (ks.map (·.2))[i]? = some r → r.act = true → ∃ k, ks[i]? = some (k, r) ∧ Nat.ble 2 (kf k) = true ∧ (k = 2 ∨ k = 3) := by
    intro i r hr ha
    obtain ⟨k, hk⟩ := at_ i r hr
    have := (hkk i _ hk).act.1 ha
    refine ⟨k, hk, ?_, this⟩
    rcases this with h | h <;> (simp only [] at h; subst h; rfl)
  have kqu : ∀ (i : Nat) (r : RecU), (ks.map (·.2))[i]? = some r → r.act = false → wantedU ops.toList r.tm r.o = some true → opU T r.s r.tm r.o.op = some (r.u, r.s') → ∃ k, ks[i]? = some (k, r) ∧ kf k = 1 := by
    intro i r hr ha hw hl
    obtain ⟨k, hk⟩ := at_ i r hr
    refine ⟨k, hk, ?_⟩
    rcases (hkk i _ hk).lk ha hw hl with h | h <;> (simp only [] at h; subst h; rfl)
  have succ : ∀ (l : List Nat) (a k : Nat), l[a]? = some k → cntM (l.take (a + 1)) = cntM (l.take a) + isM k := by
    intro l
    induction l with
    | nil => intro a k h; simp at h
    | cons x l ih =>
      intro a k h
      cases a with
      | zero => simp at h; subst h; simp [cntM]
      | succ a => simp only [List.getElem?_cons_succ] at h; simp only [List.take_succ_cons, cntM]; rw [ih a k h]; omega
  have hb1 : Nat.ble 2 1 = false := rfl
  have hb2 : Nat.beq 1 1 = true := rfl
  refine ⟨fun i k r q hr hq ha hb hlt => ?_, fun i k r q hr hq ha hw hl hb hlt => ?_, fun i k r q hr hq ha hw hl hb hlt => ?_⟩
  · obtain ⟨ki, h1, h2, _⟩ := kact i r hr ha
    obtain ⟨kk, h3, h4, _⟩ := kact k q hq hb
    obtain ⟨mi, mk, e1, e2, e3⟩ := chk i k ki kk r q h1 h3
    simp only [okE, h2, h4, cond_true, q3e hlt] at e3
    exact ⟨mi, e1, e3⟩
  · obtain ⟨ki, h1, hk1⟩ := kqu i r hr ha hw hl
    obtain ⟨kk, h3, h4, _⟩ := kact k q hq hb
    obtain ⟨mi, mk, e1, e2, e3⟩ := chk i k ki kk r q h1 h3
    simp only [okE, hk1, hb1, hb2, h4, cond_true, cond_false, q3e hlt, Bool.or_eq_true] at e3
    rcases e3 with e3 | e3 | e3
    · exact .inl ⟨mi, e1, e3⟩
    · have := nomv k i (by omega) (by have := (List.getElem?_eq_some_iff.1 h1).1; omega) (Nat.eq_of_beq_eq_true e3)
      exact .inr (.inl (by simpa [uAt, h1, h3] using this))
    · have := q6q hpr _ (qc9 e3)
      simp only [lookOk, q1n, h1, h3, q3e hlt, cond_true] at this
      exact .inr (.inr this)
  · obtain ⟨ki, h1, hk1⟩ := kqu i r hr ha hw hl
    obtain ⟨kk, h3, h4, _⟩ := kact k q hq hb
    obtain ⟨mi, mk, e1, e2, e3⟩ := chk i k ki kk r q h1 h3
    simp only [okE, hk1, hb1, hb2, h4, cond_true, cond_false, q67 (show ¬ k < i by omega), Bool.or_eq_true] at e3
    rcases e3 with e3 | e3 | e3
    · exact .inl ⟨mk, e2, e3⟩
    · have hc : cntM ((ks.map fun x => kf x.1).take i) = cntM ((ks.map fun x => kf x.1).take (k + 1)) := by
        rw [succ _ k (kf kk) (by simp [h3])]; exact Nat.eq_of_beq_eq_true e3
      have := nomv i (k + 1) (by omega) (by have := (List.getElem?_eq_some_iff.1 h3).1; omega) hc
      have h2 := (htr.all k q hq).2.2.1
      rw [h2] at this
      exact .inr (.inl (by simpa [uAt, h1] using this.symm))
    · have := q6q hpr _ (qc9 e3)
      simp only [lookOk, q1n, h1, h3, q67 (show ¬ k < i by omega), cond_false] at this
      exact .inr (.inr this)
end
def addA:Sg→List (Nat×List U×TypeId)→Sg
 | σ,[]=>σ
 | σ,x::r=>addA (newU σ (.row x.2.1 x.2.2)) r
def alsA:Nat→List (Nat×List U×TypeId)→List Al
 | _,[]=>[]
 | n,x::r=>⟨x.1,n,x.2.1,x.2.2⟩::alsA (n+1) r
theorem qa8:∀ (L:List (Nat×List U×TypeId)) (σ:Sg),(addA σ L).nx=σ.nx+L.length
 | [],σ=>rfl
 | x::r,σ=>by simp only [addA,qa8 r,newU,List.length_cons]; omega
theorem alsA_k:∀ {L:List (Nat×List U×TypeId)} {n:Nat} {al:Al},al∈alsA n L→n≤al.k∧al.k<n+L.length
 | [],n,al,h=>by cases h
 | x::r,n,al,h=>by
  rcases List.mem_cons.1 h with rfl | h
  ·simp
  ·have:=alsA_k h; simp only [List.length_cons]; omega
theorem alsA_eq:∀ {L:List (Nat×List U×TypeId)} {n:Nat} {a b:Al},a∈alsA n L→b∈alsA n L→a.k=b.k→a=b
 | [],n,a,b,h,_,_=>by cases h
 | x::r,n,a,b,ha,hb,hk=>by
  rcases List.mem_cons.1 ha with rfl | ha
  ·rcases List.mem_cons.1 hb with rfl | hb
   ·rfl
   ·have:=alsA_k hb; simp only at hk; omega
  ·rcases List.mem_cons.1 hb with rfl | hb
   ·have:=alsA_k ha; simp only at hk; omega
   ·exact alsA_eq ha hb hk
theorem addA_low:∀ (L:List (Nat×List U×TypeId)) (σ:Sg) {j:Nat},(∀ al∈alsA σ.nx L,al.k≠j)→gt (addA σ L).h j=gt σ.h j
 | [],σ,j,_=>rfl
 | x::r,σ,j,hj=>by
  have h1:=hj ⟨x.1,σ.nx,x.2.1,x.2.2⟩ (by simp [alsA])
  simp only [addA]
  rw [addA_low r (newU σ (.row x.2.1 x.2.2)) fun al hm=>hj al (by simp only [alsA,List.mem_cons]; exact .inr hm)]
  simp only [newU,q31]
  rw [if_neg h1]
theorem addA_own:∀ {L:List (Nat×List U×TypeId)} {σ:Sg} {al:Al},al∈alsA σ.nx L→gt (addA σ L).h al.k=some (.row al.l al.e)
 | [],σ,al,h=>by cases h
 | x::r,σ,al,h=>by
  rcases List.mem_cons.1 h with rfl | h
  ·simp only [addA]
   rw [addA_low r (newU σ (.row x.2.1 x.2.2)) fun al hm=>?_]
   ·simp [newU,q31]
   ·have:=alsA_k hm; simp only [newU] at this; omega
  ·exact addA_own (σ:=newU σ (.row x.2.1 x.2.2)) h
def zerosP (T:Tb):List (Nat×List U×TypeId)→Prop
 | []=>True
 | x::r=>(∃ a b z,T.inf x.2.2=some (a,b,z)∧ofVL z.cells.toList=some x.2.1∧okL x.2.1=true)∧zerosP T r
theorem zerosP_at {T:Tb}:∀ {L:List (Nat×List U×TypeId)} {n:Nat},zerosP T L→∀ al∈alsA n L,(∀ σ tm,opU T σ tm (.alloc al.e)=some (.ptr σ.nx 0 0,newU σ (.row al.l al.e)))∧BelL 0 al.l
 | [],n,_,al,h=>by cases h
 | x::r,n,hz,al,h=>by
  rcases List.mem_cons.1 h with rfl | h
  ·obtain ⟨⟨a,b,z,h1,h2,h3⟩,_⟩:=hz
   refine ⟨fun σ tm=>?_,?_⟩
   ·simp only [opU,pureU,readU,effU,h1,h2,h3,cond_true]
   ·exact ((q7u _ _ h2).2 ⟨fun _=>none,⟨[],0⟩,⟨[],0⟩⟩).bel
  ·exact zerosP_at hz.2 al h
section
variable {P:Program} {T:Tb} (hT:TbOk P T) {n0:Nat} {Q:Exit→List U→Sg→Prop} {tm:List U} {σ:Sg}
include hT
theorem WPU.drawA {id:Nat} {ops:Array Oper} (L:List (Nat×List U×TypeId)) (pr:List (Nat×Nat)) (hst:staticOk ops.toList=true) (hL:L≠[]) (hz:zerosP T L)
  (h:RA P T ops.toList σ.nx ⟨σ.h,σ.nx+L.length⟩ ops.toList tm (addA σ L) [] (alsA σ.nx L) (fun ks tm' σ'=>flE ops.toList (ks.reverse.map fun x=>kf x.1) pr=true∧lateA (L.map (·.1)) (ks.reverse.map (·.1)) (masks ops.toList [])=true∧pairsOk T ks.reverse pr∧Q .normal tm' σ')):WPU P n0 (.region id ops true) tm σ Q:=fun hn F x tv m w a hx st hd=>by
 obtain ⟨ks,tm',σ',⟨hfl,hlate,hpr,hQ⟩,g2,g3,g4,g5,g6,g7⟩:=ra_ok _ _ _ _ _ _ h
 simp only [List.append_nil,List.reverse_reverse,List.length_nil,Nat.zero_add] at hfl hlate hpr g6 g7
 have ati:∀ (i:Nat) (r:RecU),(ks.map (·.2))[i]? = some r→∃ k,ks[i]? = some (k,r):=by
  intro i r hr
  simp only [List.getElem?_map] at hr
  cases hk:ks[i]? with
  | none=>rw [hk] at hr; simp at hr
  | some x =>
   obtain ⟨k,r'⟩:=x
   rw [hk] at hr; simp at hr; subst hr
   exact ⟨k,rfl⟩
 have htr:TrU P T ops.toList tm (addA σ L) (ks.map (·.2)) tm' σ':=⟨by simpa using g2,g3,g4,fun i r hr=>by
  obtain ⟨k,hk⟩:=ati i r hr
  obtain ⟨a,b,c,d⟩:=g5 i _ hk
  exact ⟨a,b.good,c,d⟩⟩
 have hch:ChU T ops.toList (ks.map (·.2)):=chU_of hst htr (fun i x hx=>(g5 i x hx).2.1) hfl hpr
 have inai:∀ al∈alsA σ.nx L,al.i∈L.map (·.1):=by
  have:∀ (L:List (Nat×List U×TypeId)) (n:Nat),∀ al∈alsA n L,al.i∈L.map (·.1):=by
   intro L
   induction L with
   | nil=>intro n al h; cases h
   | cons x r ih =>
    intro n al h
    rcases List.mem_cons.1 h with rfl | h
    ·simp
    ·simp only [List.map_cons,List.mem_cons]; exact .inr (ih _ al h)
  exact this L σ.nx
 have late:∀ (i k:Nat) (r:RecU),ks[i]? = some (k,r)→1≤k→k≤3→∀ al∈alsA σ.nx L,Pre ops.toList i al.i:=fun i k r hk h1 h3 al hm=>by
  obtain ⟨mk,e1,e2⟩:=lateA_at hlate (i:=i) (k:=k) (by simp [hk]) h1 h3
  exact ⟨mk,e1,e2 _ (inai al hm)⟩
 have hal:ChA P T ops.toList tm σ (addA σ L) (ks.map (·.2)) (alsA σ.nx L):=by
  refine ⟨?_,fun al hm=>by rw [qa8]; exact alsA_k hm,fun a ha b hb hk=>by rw [alsA_eq ha hb hk],by rw [qa8]; omega,fun al hm=>?_,zerosP_at hz,fun i r hr ha hv=>?_,fun al hm=>addA_own hm,fun j hj=>addA_low L σ hj,fun i r hr ha=>?_,fun i r hr ha hv=>?_⟩
  ·cases L with
   | nil=>exact absurd rfl hL
   | cons x r=>simp [alsA]
  ·obtain ⟨i,x,d,e1,e2,e3,e4,e5,e6,e7⟩:=g7 al hm
   have hk:=(g5 i x e2).2.1
   have hact:x.2.act=false:=by
    cases hb:x.2.act with
    | false=>rfl
    | true=>have:=hk.act.1 hb; omega
   exact ⟨x.2,d,by rw [e1]; simp [e2],e4,hact,(hk.mv hact).2 e3,e5,e6,e7⟩
  ·obtain ⟨k,hk⟩:=ati i r hr
   have:=((g5 i _ hk).2.1.mv ha).1 hv
   exact g6 i _ hk this
  ·obtain ⟨k,hk⟩:=ati i r hr
   have:=(g5 i _ hk).2.1.act.1 ha
   simp only [] at this
   exact late i k r hk (by omega) (by omega)
  ·obtain ⟨k,hk⟩:=ati i r hr
   rcases (g5 i _ hk).2.1.ear ha hv with h | h
   ·simp only [] at h
    exact .inl (late i k r hk (by omega) (by omega))
   ·rw [qa8]; exact .inr h
 subst hx
 have hup:Mo x.σ.nx x ⟨x.ρ,⟨x.σ.h,(addA x.σ L).nx⟩,x.s⟩:=⟨fun k _ h2=>⟨by simp only [qa8]; omega,fun b hb=>⟨b,hb,Nat.le_refl _,fun _=>⟨rfl,fun l e sz st h=>⟨l,h⟩⟩⟩⟩,fun _ _ _ h=>h⟩
 have hbr:∀ j b,gt x.σ.h j=some b→j<x.σ.nx∧BelB x.σ.nx b:=fun j b hb=>⟨(st.h.ok j b hb).1,(st.h.ok j b hb).2.belB⟩
 have hno:∀ k,(Array.replicate ops.size false).getD k false=false:=fun k=>by
  by_cases hk:k<ops.size<;>simp [Array.getD,hk]
 refine wp_region_any hT.mixed ?_
 refine anyA_ok hT ops htr hst hch hal hn st.e.bel hbr (F:=F) (x0:=x) (m0:=m) (w0:=w) (df:=[]) (fun y tv' m' w' a' h1 h2 h3 h4 h5 h6=>⟨y,tm',tv',m',h1 ▸ hQ,h2,h3,h4,h5,h6⟩) ops.size (Array.replicate ops.size false) a _ m tm tv ⟨x.ρ,⟨x.σ.h,(addA x.σ L).nx⟩,x.s⟩ (by simp) (by simp) ?_ ?_ ?_ rfl ?_ (fun _ _=>rfl) ?_ ?_ (hup.ke.le hn) hd
 ·intro k q hk; rw [hno] at hk; cases hk
 ·have:=qat (rs:=ks.map (·.2)) (tm₀:=tm)
  exact ⟨this.len,fun k r d _ _ _ hL=>(by rw [hno] at hL; cases hL),fun k r d g1 g2 _=>this.no k r d g1 g2 (fun x=>x),this.other⟩
 ·cases hA:alsA x.σ.nx L with
  | nil=>exact absurd hA hal.some
  | cons al r=>exact ⟨al,by simp,by rw [hno]; simp⟩
 ·intro al hm
  rw [hno]
  simp only [Bool.false_eq_true,if_false]
  cases hg:gt x.σ.h al.k with
  | none=>rfl
  | some b=>have:=(hbr _ _ hg).1; have:=(alsA_k hm).1; omega
 ·refine ⟨⟨fun k b hb=>?_,st.h.inj,st.h.bd⟩,st.fr,hup.ke.E st.e.bel st.e,(Adv.draw _ st.fits).fits,st.act⟩
  obtain ⟨h1,h2⟩:=st.h.ok k b hb
  exact ⟨by simp only [qa8]; omega,h2.mono hup rfl fun _ _ _ h=>h⟩
 ·exact Adv.draw _ st.fits
end
end Go.Vx
end
section
namespace Go.Vx
open Go Go.Rx
set_option linter.unusedVariables false
section
variable {P:Program} {T:Tb} {ops r:List Oper} {o:Oper} {n nb:Nat} {σe:Sg} {l:List (Nat×U)} {σ σ':Sg} {acc:List RK} {q:List Al} {K:List RK→List U→Sg→Prop} {u:U}
theorem RQ.act (hw:wantedU ops (fr n l) o=some true) (h:opU T σ (fr n l) o.op=some (u,σ')) {d:Tmp} (he:o.dst=some d) (hd:Nat.blt d n=true) (hk:RA P T ops nb σe r (fr n ((d,u)::l)) σ' ((3,⟨fr n l,o,u,true,true,σ,σ'⟩)::acc) q K):RA P T ops nb σe (o::r) (fr n l) σ acc q K :=
 .inr (.inl ⟨hw,u,σ',h,by rw [he,q5i (d:=some d) u hd]; exact hk⟩)
theorem RQ.actn (hw:wantedU ops (fr n l) o=some true) (h:opU T σ (fr n l) o.op=some (u,σ')) (he:o.dst=none) (hk:RA P T ops nb σe r (fr n l) σ' ((3,⟨fr n l,o,u,true,true,σ,σ'⟩)::acc) q K):RA P T ops nb σe (o::r) (fr n l) σ acc q K :=
 .inr (.inl ⟨hw,u,σ',h,by rw [he]; exact hk⟩)
theorem RQ.call {f:FuncId} {args:List U} (hw:wantedU ops (fr n l) o=some true) (hc:callU T (fr n l) o.op=some (f,args)) (hev:EvU P f args σ (fun u' σ'=>u'=u∧σ'=σ)) {d:Tmp} (he:o.dst=some d) (hd:Nat.blt d n=true) (hk:RA P T ops nb σe r (fr n ((d,u)::l)) σ ((2,⟨fr n l,o,u,true,false,σ,σ⟩)::acc) q K):RA P T ops nb σe (o::r) (fr n l) σ acc q K :=
 .inr (.inr (.inl ⟨hw,f,args,u,hc,hev,by rw [he,q5i (d:=some d) u hd]; exact hk⟩))
theorem RQ.free {f:FuncId} {args:List U} (hw:wantedU ops (fr n l) o=some true) (hc:callU T (fr n l) o.op=some (f,args)) (hev:∀ s,EvU P f args s (fun u' σ'=>u'=u∧σ'=s)) (hb:Bel nb u) {d:Tmp} (he:o.dst=some d) (hd:Nat.blt d n=true) (hk:RA P T ops nb σe r (fr n ((d,u)::l)) σ ((6,⟨fr n l,o,u,false,false,σ,σ⟩)::acc) q K):RA P T ops nb σe (o::r) (fr n l) σ acc q K :=
 .inr (.inr (.inr (.inr (.inr (.inl ⟨hw,u,.inl ⟨f,args,hc,hev⟩,hb,by rw [he,q5i (d:=some d) u hd]; exact hk⟩)))))
theorem RQ.early (hw:wantedU ops (fr n l) o=some true) (h:opU T σ (fr n l) o.op=some (u,σ)) (h0:opU T σe (fr n l) o.op=some (u,σe)) (hn:noEff o.op=true) (hb:Bel nb u) {d:Tmp} (he:o.dst=some d) (hd:Nat.blt d n=true) (hk:RA P T ops nb σe r (fr n ((d,u)::l)) σ ((5,⟨fr n l,o,u,false,false,σ,σ⟩)::acc) q K):RA P T ops nb σe (o::r) (fr n l) σ acc q K :=
 .inr (.inr (.inr (.inr (.inr (.inr (.inl ⟨hw,u,h,h0,hn,hb,by rw [he,q5i (d:=some d) u hd]; exact hk⟩))))))
theorem RQ.alloc {al:Al} (hi:al.i=acc.length) (ho:o.op = .alloc al.e) (hg:o.guard=none) {d:Tmp} (he:o.dst=some d) (hd:Nat.blt d n=true) (hk:RA P T ops nb σe r (fr n ((d,.ptr al.k 0 0)::l)) σ ((4,⟨fr n l,o,.ptr al.k 0 0,false,true,σ,σ⟩)::acc) q K):RA P T ops nb σe (o::r) (fr n l) σ acc (al::q) K :=
 .inr (.inr (.inr (.inr (.inr (.inr (.inr ⟨al,q,d,rfl,hi,ho,hg,he,by rw [he,q5i (d:=some d) _ hd]; exact hk⟩))))))
theorem RQ.done (h:K acc (fr n l) σ):RA P T ops nb σe [] (fr n l) σ acc [] K:=⟨rfl,h⟩
end
section
variable {P:Program} {T:Tb} (hT:TbOk P T) {n0:Nat} {Q:Exit→List U→Sg→Prop} {tm:List U} {σ:Sg}
include hT
theorem WPU.drawQ {id:Nat} {ops:Array Oper} (L:List (Nat×List U×TypeId)) (pr:List (Nat×Nat)) {nb:Nat} {σe σ1:Sg} {q:List Al} (hst:staticOk ops.toList=true) (hL:L≠[]) (hz:zerosP T L)
  (h1:σ.nx=nb) (h2:(⟨σ.h,σ.nx+L.length⟩:Sg)=σe) (h3:addA σ L=σ1) (h4:alsA σ.nx L=q)
  (h:RA P T ops.toList nb σe ops.toList tm σ1 [] q (fun ks tm' σ'=>flE ops.toList (ks.reverse.map fun x=>kf x.1) pr=true∧lateA (L.map (·.1)) (ks.reverse.map (·.1)) (masks ops.toList [])=true∧pairsOk T ks.reverse pr∧Q .normal tm' σ')):WPU P n0 (.region id ops true) tm σ Q:=by
 subst h1 h2 h3 h4
 exact WPU.drawA hT L pr hst hL hz h
end
end Go.Vx
end
